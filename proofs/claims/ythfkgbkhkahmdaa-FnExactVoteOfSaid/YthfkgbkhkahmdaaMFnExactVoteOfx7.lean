-- Laid for this claim by a program of the session's own (wip/tool/myprint.py).
import Derived.Test.YthfkgbkhkahmdaaMFnExactVoteOfx0
import Derived.Test.YthfkgbkhkahmdaaMFnExactVoteOfx4
import Derived.Test.YthfkgbkhkahmdaaMFnExactVoteOfx5
import Derived.Test.YthfkgbkhkahmdaaMFnExactVoteOfx6
namespace Go.Proofs.Ythfkgbkhkahmdaa.PFnExactVoteOf
open Go.RowKit Go.Proofs.YthfkgbkhkahmdaaW.PrintWords Go.Proofs.YthfkgbkhkahmdaaW.PrintLast Go.Proofs.YthfkgbkhkahmdaaW.PrintMore
attribute [local go_sem] max2_int min2_int max_two min_two max_three min_three max_four min_four   -- for this text's walks alone
set_option linter.unusedVariables false
set_option linter.unusedSimpArgs false

/-! ### impl_VoteOf: function 51 -/
/-- One list of weights: the best one, its quota and its sum. -/
def impl_VoteOf.step (k : Nat) (t : List Int) (n : Int) (s : List Int × Int × Int) (v : List Int) : Option (List Int × Int × Int) :=
  (slices_Min_int_int.f v).bind fun mv => if mv < 0 then some s else (impl_total.f k v).bind fun z => if z ≥ s.2.2 then some s else
    (impl_productsOf.f k n v).bind fun p => (impl_gap.f k t p).bind fun q => if q.1 > q.2 then (impl_copied.f v).bind fun c => some (c, wrap64 (q.2 + 1), z) else some s
set_option maxHeartbeats 8000000 in
set_option maxRecDepth 100000 in
theorem impl_VoteOf.one (k : Nat) (t v best : List Int) (A1 : Option Addr) (c1 : Nat) (quota size : Int) (s' : List Int × Int × Int) (vw : Value) (g gs gt gn gb : Nat) (w0 w : World)
    (hn : v.length ≤ 8) (hg : w.heap[g]? = some (row3 v)) (hs : w.heap[gs]? = some (.cells #[.int .i64 size] 3 (0, 0))) (ht : w.heap[gt]? = some (.cells #[.slice A1 t.length c1] 24 (0, 0)))
    (hnb : w.heap[gn]? = some (.cells #[.int .i64 (v.length : Int)] 3 (0, 0))) (hbb : w.heap[gb]? = some (.cells #[vw, .int .i64 quota] 57 (0, 0)))
    (hR : Kd.R (Kd.int .i64) 3 w w0.heap.size (fun k => k ≠ g ∧ k ≠ gs ∧ k ≠ gn) vw best) (hC : Kd.C (Kd.int .i64) w0 A1 t.length t) (hc1 : t.length ≤ c1) (hB : Below w0.heap.size w0 w)
    (hgs : w0.heap.size ≤ gs) (hgb : w0.heap.size ≤ gb) (e1 : gs ≠ gn) (e2 : gs ≠ g) (e3 : gn ≠ g) (h : impl_VoteOf.step k t (v.length : Int) (best, quota, size) v = some s') :
    Calls Try.prog 111 #[.slice (some ⟨g, 0, none⟩) v.length v.length, .pointer (some ⟨gs, 0, none⟩), .pointer (some ⟨gt, 0, none⟩), .pointer (some ⟨gn, 0, none⟩), .pointer (some ⟨gb, 0, none⟩)] w fun e w' => e = .returned (.tuple #[]) ∧
      w'.heap[g]? = some (row3 v) ∧ w'.heap[gs]? = some (.cells #[.int .i64 s'.2.2] 3 (0, 0)) ∧ w'.heap[gt]? = some (.cells #[.slice A1 t.length c1] 24 (0, 0)) ∧ w'.heap[gn]? = some (.cells #[.int .i64 (v.length : Int)] 3 (0, 0)) ∧
        ∃ vw' : Value, w'.heap[gb]? = some (.cells #[vw', .int .i64 s'.2.1] 57 (0, 0)) ∧ Kd.R (Kd.int .i64) 3 w' w0.heap.size (fun k => k ≠ g ∧ k ≠ gs ∧ k ≠ gn) vw' s'.1 ∧ Below w0.heap.size w0 w' ∧ w.heap.size ≤ w'.heap.size ∧ ∀ i, i < w.heap.size → i ≠ gs → i ≠ gb → w'.heap[i]? = w.heap[i]? := by
  have HG := Aside0.mk hg
  have HS := Aside0.mk hs
  have HT := Aside0.mk ht
  have HN := Aside0.mk hnb
  have HBB := Aside0.mk hbb
  have HR := Aside0.mk hR
  have HC := Aside0.mk hC
  have HC1 := Aside0.mk hc1
  have HB := Aside0.mk hB
  have HBW := Aside0.mk (Below.refl w.heap.size w)
  have H := Aside0.mk h
  have HE := Aside0.mk (And.intro hgs (And.intro hgb (And.intro e1 (And.intro e2 e3))))
  have hcs : w.cell? ⟨gs, 0, none⟩ = some (.int .i64 size) := (blk_cell hs 0).trans rfl
  have hct : w.cell? ⟨gt, 0, none⟩ = some (.slice A1 t.length c1) := (blk_cell ht 0).trans rfl
  have hcn : w.cell? ⟨gn, 0, none⟩ = some (.int .i64 (v.length : Int)) := (blk_cell hnb 0).trans rfl
  clear hg hs ht hnb hbb hR hC hc1 hB h hgs hgb e1 e2 e3 hcs hct hcn
  have h := H.out
  unfold impl_VoteOf.step at h
  obtain ⟨mv, hmv, h⟩ := Option.bind_eq_some_iff.mp h
  have HMV := Aside0.mk hmv
  clear hmv H
  go_enter Try.func111, Try.ntmps111
  go_wp2
  have n0_ := Aside0.mk (blk_drew HG.out)
  have n1_ := Aside0.mk (blk_drew HS.out)
  have n2_ := Aside0.mk (blk_drew HT.out)
  have n3_ := Aside0.mk (blk_drew HN.out)
  have n4_ := Aside0.mk (blk_drew HBB.out)
  have n5_ := Aside0.mk (Kd.R_drew HR.out)
  have n6_ := Aside0.mk (below_drew1 HB.out)
  have n7_ := Aside0.mk (below_drew1 HBW.out)
  clear HG HS HT HN HBB HR HB HBW
  have HG := n0_
  have HS := n1_
  have HT := n2_
  have HN := n3_
  have HBB := n4_
  have HR := n5_
  have HB := n6_
  have HBW := n7_
  clear n0_ n1_ n2_ n3_ n4_ n5_ n6_ n7_
  by_cases c1_ : mv < 0
  · rw [if_pos c1_] at h
    cases h
    have d1 : decide (mv < 0) = true := decide_eq_true c1_
    clear c1_
    refine start_ (n := 9) (S := fun w' => w'.cell? ⟨gs, 0, none⟩ = some (.int .i64 size)) (ds := []) #[false, false, false, false, false, false, false, false, false] (by kernel_rfl) rfl rfl ((blk_cell HS.out 0).trans rfl) (fun hHeld => ?_)
    generalize w.drew = w2 at HG HS HT HN HBB HR HB HBW hHeld ⊢
    refine pure_ (i := 0) (N := some 8) (v := ?_) (a' := ?_) #[true, false, false, false, false, false, false, false, false] rfl rfl (by kernel_rfl) (fun _ _ _ h => h) (Or.inl ⟨by rfl, ?_⟩) ?_ ?_
    rotate_left
    · intro w'
      go_simp
      with_reducible rfl
    rotate_left
    · simp only [Act.put, List.setIfInBounds_toArray, List.set_cons_zero, List.set_cons_succ, i64_w, i32_w]
      rfl
    refine one_ (i := 1) (N := some 9) #[true, true, false, false, false, false, false, false, false] rfl rfl (by kernel_rfl) (by decide) (fun K hK => ?_)
    refine goes_ Try.func112 (by kernel_rfl) rfl #[.slice (some ⟨g, 0, none⟩) v.length v.length] (by rfl) rfl rfl (by simp only [List.map_toArray, List.map_cons, List.map_nil]; rfl) ?_
    with_reducible refine (slices_Min_int_int.calls _ _ v mv _ (row3_C HG.out (by omega)) (Nat.le_refl _) HMV.out).mono ?_
    rintro e w3 ⟨rfl, hb⟩
    refine ⟨_, rfl, ?_⟩
    have n0_ := Aside0.mk ((hb.block g (blk_lt HG.out)).trans HG.out)
    have n1_ := Aside0.mk ((hb.block gs (blk_lt HS.out)).trans HS.out)
    have n2_ := Aside0.mk ((hb.block gt (blk_lt HT.out)).trans HT.out)
    have n3_ := Aside0.mk ((hb.block gn (blk_lt HN.out)).trans HN.out)
    have n4_ := Aside0.mk ((hb.block gb (blk_lt HBB.out)).trans HBB.out)
    have n5_ := Aside0.mk (Kd.R_below HR.out hb)
    have n6_ := Aside0.mk (below_step HB.out hb)
    have n7_ := Aside0.mk (below_step HBW.out hb)
    clear HG HS HT HN HBB HR HB HBW
    have HG := n0_
    have HS := n1_
    have HT := n2_
    have HN := n3_
    have HBB := n4_
    have HR := n5_
    have HB := n6_
    have HBW := n7_
    clear n0_ n1_ n2_ n3_ n4_ n5_ n6_ n7_
    clear hb
    refine hK.out _ _ ((blk_cell HS.out 0).trans rfl) (fun hHeld => ?_)
    clear hK K
    refine norm_ (a' := ?_) ?_ ?_
    rotate_left
    · show Act.put _ (some 9) _ = _
      simp only [Act.put, List.setIfInBounds_toArray, List.set_cons_zero, List.set_cons_succ, i64_w, i32_w]
      rfl
    refine pure_ (i := 2) (N := some 10) (v := ?_) (a' := ?_) #[true, true, true, false, false, false, false, false, false] rfl rfl (by kernel_rfl) (fun _ _ _ h => h) (Or.inl ⟨by rfl, ?_⟩) ?_ ?_
    rotate_left
    · intro w'
      go_simp
      with_reducible rfl
    rotate_left
    · simp only [Act.put, List.setIfInBounds_toArray, List.set_cons_zero, List.set_cons_succ, i64_w, i32_w]
      rfl
    refine pure_ (i := 3) (N := some 11) (v := ?_) (a' := ?_) #[true, true, true, true, false, false, false, false, false] rfl rfl (by kernel_rfl) (fun _ _ _ h => h) (Or.inl ⟨by rfl, ?_⟩) ?_ ?_
    rotate_left
    · intro w'
      go_simp
      with_reducible rfl
    rotate_left
    · simp only [Act.put, List.setIfInBounds_toArray, List.set_cons_zero, List.set_cons_succ, i64_w, i32_w]
      rfl
    refine pure_ (i := 4) (N := some 12) (v := undef) (a' := ?_) #[true, true, true, true, true, false, false, false, false] rfl rfl (by kernel_rfl) (fun _ _ _ h => h) (Or.inr ⟨by rfl, rfl⟩) ?_ ?_
    rotate_left
    · simp only [Act.put, List.setIfInBounds_toArray, List.set_cons_zero, List.set_cons_succ, i64_w, i32_w]
      rfl
    refine pure_ (i := 5) (N := some 13) (v := undef) (a' := ?_) #[true, true, true, true, true, true, false, false, false] rfl rfl (by kernel_rfl) (fun _ _ _ h => h) (Or.inr ⟨by rfl, rfl⟩) ?_ ?_
    rotate_left
    · simp only [Act.put, List.setIfInBounds_toArray, List.set_cons_zero, List.set_cons_succ, i64_w, i32_w]
      rfl
    refine pure_ (i := 6) (N := some 14) (v := undef) (a' := ?_) #[true, true, true, true, true, true, true, false, false] rfl rfl (by kernel_rfl) (fun _ _ _ h => h) (Or.inr ⟨by rfl, rfl⟩) ?_ ?_
    rotate_left
    · simp only [Act.put, List.setIfInBounds_toArray, List.set_cons_zero, List.set_cons_succ, i64_w, i32_w]
      rfl
    refine pure_ (i := 7) (N := some 15) (v := undef) (a' := ?_) #[true, true, true, true, true, true, true, true, false] rfl rfl (by kernel_rfl) (fun _ _ _ h => h) (Or.inr ⟨by rfl, rfl⟩) ?_ ?_
    rotate_left
    · simp only [Act.put, List.setIfInBounds_toArray, List.set_cons_zero, List.set_cons_succ, i64_w, i32_w]
      rfl
    refine pure_ (i := 8) (N := some 16) (v := ?_) (a' := ?_) #[true, true, true, true, true, true, true, true, true] rfl rfl (by kernel_rfl) (fun _ _ _ h => h) (Or.inl ⟨by rfl, ?_⟩) ?_ ?_
    rotate_left
    · intro w'
      go_simp
      with_reducible rfl
    rotate_left
    · simp only [Act.put, List.setIfInBounds_toArray, List.set_cons_zero, List.set_cons_succ, i64_w, i32_w]
      rfl
    refine done_ (by kernel_rfl) ?_
    go_wp2
    first | go_end0 | ((try simp only [Exit.inBlock, Exit.then]); refine bodyPost_ret (results_none rfl _ _ _) rfl ?_)
    exact ⟨rfl, HG.out, HS.out, HT.out, HN.out, _, HBB.out, HR.out, HB.out, below_size HBW.out, fun i hi _ _ => HBW.out.block i hi⟩
  · rw [if_neg c1_] at h
    obtain ⟨z, hz, h⟩ := Option.bind_eq_some_iff.mp h
    have HZ := Aside0.mk hz
    have d1 : decide (mv < 0) = false := decide_eq_false c1_
    clear c1_ hz
    by_cases c2_ : z ≥ size
    · rw [if_pos c2_] at h
      cases h
      have d2 : decide (z ≥ size) = true := decide_eq_true c2_
      have d3 : decide (size ≤ z) = true := decide_eq_true c2_
      clear c2_
      refine start_ (n := 9) (S := fun w' => w'.cell? ⟨gs, 0, none⟩ = some (.int .i64 size)) (ds := []) #[false, false, false, false, false, false, false, false, false] (by kernel_rfl) rfl rfl ((blk_cell HS.out 0).trans rfl) (fun hHeld => ?_)
      generalize w.drew = w2 at HG HS HT HN HBB HR HB HBW hHeld ⊢
      refine pure_ (i := 0) (N := some 8) (v := ?_) (a' := ?_) #[true, false, false, false, false, false, false, false, false] rfl rfl (by kernel_rfl) (fun _ _ _ h => h) (Or.inl ⟨by rfl, ?_⟩) ?_ ?_
      rotate_left
      · intro w'
        go_simp
        with_reducible rfl
      rotate_left
      · simp only [Act.put, List.setIfInBounds_toArray, List.set_cons_zero, List.set_cons_succ, i64_w, i32_w]
        rfl
      refine one_ (i := 1) (N := some 9) #[true, true, false, false, false, false, false, false, false] rfl rfl (by kernel_rfl) (by decide) (fun K hK => ?_)
      refine goes_ Try.func112 (by kernel_rfl) rfl #[.slice (some ⟨g, 0, none⟩) v.length v.length] (by rfl) rfl rfl (by simp only [List.map_toArray, List.map_cons, List.map_nil]; rfl) ?_
      with_reducible refine (slices_Min_int_int.calls _ _ v mv _ (row3_C HG.out (by omega)) (Nat.le_refl _) HMV.out).mono ?_
      rintro e w3 ⟨rfl, hb⟩
      refine ⟨_, rfl, ?_⟩
      have n0_ := Aside0.mk ((hb.block g (blk_lt HG.out)).trans HG.out)
      have n1_ := Aside0.mk ((hb.block gs (blk_lt HS.out)).trans HS.out)
      have n2_ := Aside0.mk ((hb.block gt (blk_lt HT.out)).trans HT.out)
      have n3_ := Aside0.mk ((hb.block gn (blk_lt HN.out)).trans HN.out)
      have n4_ := Aside0.mk ((hb.block gb (blk_lt HBB.out)).trans HBB.out)
      have n5_ := Aside0.mk (Kd.R_below HR.out hb)
      have n6_ := Aside0.mk (below_step HB.out hb)
      have n7_ := Aside0.mk (below_step HBW.out hb)
      clear HG HS HT HN HBB HR HB HBW
      have HG := n0_
      have HS := n1_
      have HT := n2_
      have HN := n3_
      have HBB := n4_
      have HR := n5_
      have HB := n6_
      have HBW := n7_
      clear n0_ n1_ n2_ n3_ n4_ n5_ n6_ n7_
      clear hb
      refine hK.out _ _ ((blk_cell HS.out 0).trans rfl) (fun hHeld => ?_)
      clear hK K
      refine norm_ (a' := ?_) ?_ ?_
      rotate_left
      · show Act.put _ (some 9) _ = _
        simp only [Act.put, List.setIfInBounds_toArray, List.set_cons_zero, List.set_cons_succ, i64_w, i32_w]
        rfl
      refine pure_ (i := 2) (N := some 10) (v := ?_) (a' := ?_) #[true, true, true, false, false, false, false, false, false] rfl rfl (by kernel_rfl) (fun _ _ _ h => h) (Or.inl ⟨by rfl, ?_⟩) ?_ ?_
      rotate_left
      · intro w'
        go_simp
        with_reducible rfl
      rotate_left
      · simp only [Act.put, List.setIfInBounds_toArray, List.set_cons_zero, List.set_cons_succ, i64_w, i32_w]
        rfl
      refine pure_ (i := 3) (N := some 11) (v := ?_) (a' := ?_) #[true, true, true, true, false, false, false, false, false] rfl rfl (by kernel_rfl) (fun _ _ _ h => h) (Or.inl ⟨by rfl, ?_⟩) ?_ ?_
      rotate_left
      · intro w'
        go_simp
        with_reducible rfl
      rotate_left
      · simp only [Act.put, List.setIfInBounds_toArray, List.set_cons_zero, List.set_cons_succ, i64_w, i32_w]
        rfl
      refine pure_ (i := 4) (N := some 12) (v := ?_) (a' := ?_) #[true, true, true, true, true, false, false, false, false] rfl rfl (by kernel_rfl) (fun _ _ _ h => h) (Or.inl ⟨by rfl, ?_⟩) ?_ ?_
      rotate_left
      · intro w'
        go_simp
        with_reducible rfl
      rotate_left
      · simp only [Act.put, List.setIfInBounds_toArray, List.set_cons_zero, List.set_cons_succ, i64_w, i32_w]
        rfl
      refine take_ (i := 6) (N := some 14) (v := ?_) (a' := ?_) #[true, true, true, true, true, false, true, false, false] rfl rfl (by kernel_rfl) (fun _ _ _ h => h) (Or.inl ⟨by rfl, ?_⟩) hHeld ?_ ?_
      rotate_left
      · intro w' s0
        go_simp
        with_reducible rfl
      rotate_left
      · simp only [Act.put, List.setIfInBounds_toArray, List.set_cons_zero, List.set_cons_succ, i64_w, i32_w]
        rfl
      refine one_ (i := 5) (N := some 13) #[true, true, true, true, true, true, true, false, false] rfl rfl (by kernel_rfl) (by decide) (fun K hK => ?_)
      refine goes_ Try.func113 (by kernel_rfl) rfl #[.slice (some ⟨g, 0, none⟩) v.length v.length] (by rfl) rfl rfl (by simp only [List.map_toArray, List.map_cons, List.map_nil]; rfl) ?_
      with_reducible refine (impl_total.calls k _ _ v z _ (row3_C HG.out (by omega)) (Nat.le_refl _) HZ.out).mono ?_
      rintro e w4 ⟨rfl, ⟨nd, rfl⟩⟩
      refine ⟨_, rfl, ?_⟩
      have n0_ := Aside0.mk (blk_drewN HG.out nd)
      have n1_ := Aside0.mk (blk_drewN HS.out nd)
      have n2_ := Aside0.mk (blk_drewN HT.out nd)
      have n3_ := Aside0.mk (blk_drewN HN.out nd)
      have n4_ := Aside0.mk (blk_drewN HBB.out nd)
      have n5_ := Aside0.mk (Kd.R_drewN HR.out nd)
      have n6_ := Aside0.mk (pw_below_drewN HB.out nd)
      have n7_ := Aside0.mk (pw_below_drewN HBW.out nd)
      clear HG HS HT HN HBB HR HB HBW
      have HG := n0_
      have HS := n1_
      have HT := n2_
      have HN := n3_
      have HBB := n4_
      have HR := n5_
      have HB := n6_
      have HBW := n7_
      clear n0_ n1_ n2_ n3_ n4_ n5_ n6_ n7_
      refine hK.out _ _ ((blk_cell HS.out 0).trans rfl) (fun hHeld => ?_)
      clear hK K
      refine norm_ (a' := ?_) ?_ ?_
      rotate_left
      · show Act.put _ (some 13) _ = _
        simp only [Act.put, List.setIfInBounds_toArray, List.set_cons_zero, List.set_cons_succ, i64_w, i32_w]
        rfl
      refine pure_ (i := 7) (N := some 15) (v := ?_) (a' := ?_) #[true, true, true, true, true, true, true, true, false] rfl rfl (by kernel_rfl) (fun _ _ _ h => h) (Or.inl ⟨by rfl, ?_⟩) ?_ ?_
      rotate_left
      · intro w'
        go_simp
        with_reducible rfl
      rotate_left
      · simp only [Act.put, List.setIfInBounds_toArray, List.set_cons_zero, List.set_cons_succ, i64_w, i32_w]
        rfl
      refine pure_ (i := 8) (N := some 16) (v := ?_) (a' := ?_) #[true, true, true, true, true, true, true, true, true] rfl rfl (by kernel_rfl) (fun _ _ _ h => h) (Or.inl ⟨by rfl, ?_⟩) ?_ ?_
      rotate_left
      · intro w'
        go_simp
        with_reducible rfl
      rotate_left
      · simp only [Act.put, List.setIfInBounds_toArray, List.set_cons_zero, List.set_cons_succ, i64_w, i32_w]
        rfl
      refine done_ (by kernel_rfl) ?_
      go_wp2
      first | go_end0 | ((try simp only [Exit.inBlock, Exit.then]); refine bodyPost_ret (results_none rfl _ _ _) rfl ?_)
      exact ⟨rfl, HG.out, HS.out, HT.out, HN.out, _, HBB.out, HR.out, HB.out, below_size HBW.out, fun i hi _ _ => HBW.out.block i hi⟩
    · rw [if_neg c2_] at h
      obtain ⟨p, hp, h⟩ := Option.bind_eq_some_iff.mp h
      obtain ⟨⟨o1, o2⟩, hq, h⟩ := Option.bind_eq_some_iff.mp h
      have HP := Aside0.mk hp
      have HQ := Aside0.mk hq
      have H := Aside0.mk h
      have d2 : decide (z ≥ size) = false := decide_eq_false c2_
      have d3 : decide (size ≤ z) = false := decide_eq_false c2_
      clear c2_ hp hq h
      refine start_ (n := 9) (S := fun w' => w'.cell? ⟨gs, 0, none⟩ = some (.int .i64 size)) (ds := []) #[false, false, false, false, false, false, false, false, false] (by kernel_rfl) rfl rfl ((blk_cell HS.out 0).trans rfl) (fun hHeld => ?_)
      generalize w.drew = w2 at HG HS HT HN HBB HR HB HBW hHeld ⊢
      refine pure_ (i := 0) (N := some 8) (v := ?_) (a' := ?_) #[true, false, false, false, false, false, false, false, false] rfl rfl (by kernel_rfl) (fun _ _ _ h => h) (Or.inl ⟨by rfl, ?_⟩) ?_ ?_
      rotate_left
      · intro w'
        go_simp
        with_reducible rfl
      rotate_left
      · simp only [Act.put, List.setIfInBounds_toArray, List.set_cons_zero, List.set_cons_succ, i64_w, i32_w]
        rfl
      refine one_ (i := 1) (N := some 9) #[true, true, false, false, false, false, false, false, false] rfl rfl (by kernel_rfl) (by decide) (fun K hK => ?_)
      refine goes_ Try.func112 (by kernel_rfl) rfl #[.slice (some ⟨g, 0, none⟩) v.length v.length] (by rfl) rfl rfl (by simp only [List.map_toArray, List.map_cons, List.map_nil]; rfl) ?_
      with_reducible refine (slices_Min_int_int.calls _ _ v mv _ (row3_C HG.out (by omega)) (Nat.le_refl _) HMV.out).mono ?_
      rintro e w3 ⟨rfl, hb⟩
      refine ⟨_, rfl, ?_⟩
      have n0_ := Aside0.mk ((hb.block g (blk_lt HG.out)).trans HG.out)
      have n1_ := Aside0.mk ((hb.block gs (blk_lt HS.out)).trans HS.out)
      have n2_ := Aside0.mk ((hb.block gt (blk_lt HT.out)).trans HT.out)
      have n3_ := Aside0.mk ((hb.block gn (blk_lt HN.out)).trans HN.out)
      have n4_ := Aside0.mk ((hb.block gb (blk_lt HBB.out)).trans HBB.out)
      have n5_ := Aside0.mk (Kd.R_below HR.out hb)
      have n6_ := Aside0.mk (below_step HB.out hb)
      have n7_ := Aside0.mk (below_step HBW.out hb)
      clear HG HS HT HN HBB HR HB HBW
      have HG := n0_
      have HS := n1_
      have HT := n2_
      have HN := n3_
      have HBB := n4_
      have HR := n5_
      have HB := n6_
      have HBW := n7_
      clear n0_ n1_ n2_ n3_ n4_ n5_ n6_ n7_
      clear hb
      refine hK.out _ _ ((blk_cell HS.out 0).trans rfl) (fun hHeld => ?_)
      clear hK K
      refine norm_ (a' := ?_) ?_ ?_
      rotate_left
      · show Act.put _ (some 9) _ = _
        simp only [Act.put, List.setIfInBounds_toArray, List.set_cons_zero, List.set_cons_succ, i64_w, i32_w]
        rfl
      refine pure_ (i := 2) (N := some 10) (v := ?_) (a' := ?_) #[true, true, true, false, false, false, false, false, false] rfl rfl (by kernel_rfl) (fun _ _ _ h => h) (Or.inl ⟨by rfl, ?_⟩) ?_ ?_
      rotate_left
      · intro w'
        go_simp
        with_reducible rfl
      rotate_left
      · simp only [Act.put, List.setIfInBounds_toArray, List.set_cons_zero, List.set_cons_succ, i64_w, i32_w]
        rfl
      refine pure_ (i := 3) (N := some 11) (v := ?_) (a' := ?_) #[true, true, true, true, false, false, false, false, false] rfl rfl (by kernel_rfl) (fun _ _ _ h => h) (Or.inl ⟨by rfl, ?_⟩) ?_ ?_
      rotate_left
      · intro w'
        go_simp
        with_reducible rfl
      rotate_left
      · simp only [Act.put, List.setIfInBounds_toArray, List.set_cons_zero, List.set_cons_succ, i64_w, i32_w]
        rfl
      refine pure_ (i := 4) (N := some 12) (v := ?_) (a' := ?_) #[true, true, true, true, true, false, false, false, false] rfl rfl (by kernel_rfl) (fun _ _ _ h => h) (Or.inl ⟨by rfl, ?_⟩) ?_ ?_
      rotate_left
      · intro w'
        go_simp
        with_reducible rfl
      rotate_left
      · simp only [Act.put, List.setIfInBounds_toArray, List.set_cons_zero, List.set_cons_succ, i64_w, i32_w]
        rfl
      refine take_ (i := 6) (N := some 14) (v := ?_) (a' := ?_) #[true, true, true, true, true, false, true, false, false] rfl rfl (by kernel_rfl) (fun _ _ _ h => h) (Or.inl ⟨by rfl, ?_⟩) hHeld ?_ ?_
      rotate_left
      · intro w' s0
        go_simp
        with_reducible rfl
      rotate_left
      · simp only [Act.put, List.setIfInBounds_toArray, List.set_cons_zero, List.set_cons_succ, i64_w, i32_w]
        rfl
      refine one_ (i := 5) (N := some 13) #[true, true, true, true, true, true, true, false, false] rfl rfl (by kernel_rfl) (by decide) (fun K hK => ?_)
      refine goes_ Try.func113 (by kernel_rfl) rfl #[.slice (some ⟨g, 0, none⟩) v.length v.length] (by rfl) rfl rfl (by simp only [List.map_toArray, List.map_cons, List.map_nil]; rfl) ?_
      with_reducible refine (impl_total.calls k _ _ v z _ (row3_C HG.out (by omega)) (Nat.le_refl _) HZ.out).mono ?_
      rintro e w4 ⟨rfl, ⟨nd, rfl⟩⟩
      refine ⟨_, rfl, ?_⟩
      have n0_ := Aside0.mk (blk_drewN HG.out nd)
      have n1_ := Aside0.mk (blk_drewN HS.out nd)
      have n2_ := Aside0.mk (blk_drewN HT.out nd)
      have n3_ := Aside0.mk (blk_drewN HN.out nd)
      have n4_ := Aside0.mk (blk_drewN HBB.out nd)
      have n5_ := Aside0.mk (Kd.R_drewN HR.out nd)
      have n6_ := Aside0.mk (pw_below_drewN HB.out nd)
      have n7_ := Aside0.mk (pw_below_drewN HBW.out nd)
      clear HG HS HT HN HBB HR HB HBW
      have HG := n0_
      have HS := n1_
      have HT := n2_
      have HN := n3_
      have HBB := n4_
      have HR := n5_
      have HB := n6_
      have HBW := n7_
      clear n0_ n1_ n2_ n3_ n4_ n5_ n6_ n7_
      refine hK.out _ _ ((blk_cell HS.out 0).trans rfl) (fun hHeld => ?_)
      clear hK K
      refine norm_ (a' := ?_) ?_ ?_
      rotate_left
      · show Act.put _ (some 13) _ = _
        simp only [Act.put, List.setIfInBounds_toArray, List.set_cons_zero, List.set_cons_succ, i64_w, i32_w]
        rfl
      refine pure_ (i := 7) (N := some 15) (v := ?_) (a' := ?_) #[true, true, true, true, true, true, true, true, false] rfl rfl (by kernel_rfl) (fun _ _ _ h => h) (Or.inl ⟨by rfl, ?_⟩) ?_ ?_
      rotate_left
      · intro w'
        go_simp
        with_reducible rfl
      rotate_left
      · simp only [Act.put, List.setIfInBounds_toArray, List.set_cons_zero, List.set_cons_succ, i64_w, i32_w]
        rfl
      refine pure_ (i := 8) (N := some 16) (v := ?_) (a' := ?_) #[true, true, true, true, true, true, true, true, true] rfl rfl (by kernel_rfl) (fun _ _ _ h => h) (Or.inl ⟨by rfl, ?_⟩) ?_ ?_
      rotate_left
      · intro w'
        go_simp
        with_reducible rfl
      rotate_left
      · simp only [Act.put, List.setIfInBounds_toArray, List.set_cons_zero, List.set_cons_succ, i64_w, i32_w]
        rfl
      refine done_ (by kernel_rfl) ?_
      go_wp2
      have n0_ := Aside0.mk (blk_drew HG.out)
      have n1_ := Aside0.mk (blk_drew HS.out)
      have n2_ := Aside0.mk (blk_drew HT.out)
      have n3_ := Aside0.mk (blk_drew HN.out)
      have n4_ := Aside0.mk (blk_drew HBB.out)
      have n5_ := Aside0.mk (Kd.R_drew HR.out)
      have n6_ := Aside0.mk (below_drew1 HB.out)
      have n7_ := Aside0.mk (below_drew1 HBW.out)
      clear HG HS HT HN HBB HR HB HBW
      have HG := n0_
      have HS := n1_
      have HT := n2_
      have HN := n3_
      have HBB := n4_
      have HR := n5_
      have HB := n6_
      have HBW := n7_
      clear n0_ n1_ n2_ n3_ n4_ n5_ n6_ n7_
      refine start_ (n := 10) (S := fun w' => w'.cell? ⟨gt, 0, none⟩ = some (.slice A1 t.length c1) ∧ w'.cell? ⟨gn, 0, none⟩ = some (.int .i64 (v.length : Int))) (ds := []) #[false, false, false, false, false, false, false, false, false, false] (by kernel_rfl) rfl rfl ⟨(blk_cell HT.out 0).trans rfl, (blk_cell HN.out 0).trans rfl⟩ (fun hHeld => ?_)
      generalize World.drew _ = w45 at HG HS HT HN HBB HR HB HBW hHeld ⊢
      refine pure_ (i := 2) (N := some 20) (v := ?_) (a' := ?_) #[false, false, true, false, false, false, false, false, false, false] rfl rfl (by kernel_rfl) (fun _ _ _ h => h) (Or.inl ⟨by rfl, ?_⟩) ?_ ?_
      rotate_left
      · intro w'
        go_simp
        with_reducible rfl
      rotate_left
      · simp only [Act.put, List.setIfInBounds_toArray, List.set_cons_zero, List.set_cons_succ, i64_w, i32_w]
        rfl
      refine take_ (i := 0) (N := some 18) (v := ?_) (a' := ?_) #[true, false, true, false, false, false, false, false, false, false] rfl rfl (by kernel_rfl) (fun _ _ _ h => h) (Or.inl ⟨by rfl, ?_⟩) hHeld ?_ ?_
      rotate_left
      · rintro w' ⟨s0, s1⟩
        go_simp
        with_reducible rfl
      rotate_left
      · simp only [Act.put, List.setIfInBounds_toArray, List.set_cons_zero, List.set_cons_succ, i64_w, i32_w]
        rfl
      refine take_ (i := 1) (N := some 19) (v := ?_) (a' := ?_) #[true, true, true, false, false, false, false, false, false, false] rfl rfl (by kernel_rfl) (fun _ _ _ h => h) (Or.inl ⟨by rfl, ?_⟩) hHeld ?_ ?_
      rotate_left
      · rintro w' ⟨s0, s1⟩
        go_simp
        with_reducible rfl
      rotate_left
      · simp only [Act.put, List.setIfInBounds_toArray, List.set_cons_zero, List.set_cons_succ, i64_w, i32_w]
        rfl
      refine one_ (i := 3) (N := some 21) #[true, true, true, true, false, false, false, false, false, false] rfl rfl (by kernel_rfl) (by decide) (fun K hK => ?_)
      refine goes_ Try.func115 (by kernel_rfl) rfl #[.int .i64 (v.length : Int), .slice (some ⟨g, 0, none⟩) v.length v.length] (by rfl) rfl rfl (by simp only [List.map_toArray, List.map_cons, List.map_nil]; rfl) ?_
      with_reducible refine (impl_productsOf.calls k _ _ _ v p _ (row3_C HG.out (by omega)) (Nat.le_refl _) HP.out).mono ?_
      rintro e w5 ⟨vp, rfl, hpr, hb⟩
      refine ⟨_, rfl, ?_⟩
      obtain ⟨Ap, cp, rfl, hlp, hcp⟩ := Kd.R_reads hpr
      have n0_ := Aside0.mk ((hb.block g (blk_lt HG.out)).trans HG.out)
      have n1_ := Aside0.mk ((hb.block gs (blk_lt HS.out)).trans HS.out)
      have n2_ := Aside0.mk ((hb.block gt (blk_lt HT.out)).trans HT.out)
      have n3_ := Aside0.mk ((hb.block gn (blk_lt HN.out)).trans HN.out)
      have n4_ := Aside0.mk ((hb.block gb (blk_lt HBB.out)).trans HBB.out)
      have n5_ := Aside0.mk (Kd.R_below HR.out hb)
      have n6_ := Aside0.mk (below_step HB.out hb)
      have n7_ := Aside0.mk (below_step HBW.out hb)
      clear HG HS HT HN HBB HR HB HBW
      have HG := n0_
      have HS := n1_
      have HT := n2_
      have HN := n3_
      have HBB := n4_
      have HR := n5_
      have HB := n6_
      have HBW := n7_
      clear n0_ n1_ n2_ n3_ n4_ n5_ n6_ n7_
      have HCP := Aside0.mk hcp
      have HLP := Aside0.mk hlp
      clear hb hpr hcp hlp
      refine hK.out _ _ ⟨(blk_cell HT.out 0).trans rfl, (blk_cell HN.out 0).trans rfl⟩ (fun hHeld => ?_)
      clear hK K
      refine norm_ (a' := ?_) ?_ ?_
      rotate_left
      · show Act.put _ (some 21) _ = _
        simp only [Act.put, List.setIfInBounds_toArray, List.set_cons_zero, List.set_cons_succ, i64_w, i32_w]
        rfl
      refine one_ (i := 4) (N := some 22) #[true, true, true, true, true, false, false, false, false, false] rfl rfl (by kernel_rfl) (by decide) (fun K hK => ?_)
      refine goes_ Try.func114 (by kernel_rfl) rfl #[.slice A1 t.length c1, .slice Ap p.length cp] (by rfl) rfl rfl (by simp only [List.map_toArray, List.map_cons, List.map_nil]; rfl) ?_
      with_reducible refine (impl_gap.calls k _ _ t _ _ p o1 o2 _ (Kd.C_below HC.out HB.out) HC1.out HCP.out HLP.out HQ.out).mono ?_
      rintro e w6 ⟨rfl, hb⟩
      refine ⟨_, rfl, ?_⟩
      have n0_ := Aside0.mk ((hb.block g (blk_lt HG.out)).trans HG.out)
      have n1_ := Aside0.mk ((hb.block gs (blk_lt HS.out)).trans HS.out)
      have n2_ := Aside0.mk ((hb.block gt (blk_lt HT.out)).trans HT.out)
      have n3_ := Aside0.mk ((hb.block gn (blk_lt HN.out)).trans HN.out)
      have n4_ := Aside0.mk ((hb.block gb (blk_lt HBB.out)).trans HBB.out)
      have n5_ := Aside0.mk (Kd.R_below HR.out hb)
      have n6_ := Aside0.mk (below_step HB.out hb)
      have n7_ := Aside0.mk (below_step HBW.out hb)
      clear HG HS HT HN HBB HR HB HBW
      have HG := n0_
      have HS := n1_
      have HT := n2_
      have HN := n3_
      have HBB := n4_
      have HR := n5_
      have HB := n6_
      have HBW := n7_
      clear n0_ n1_ n2_ n3_ n4_ n5_ n6_ n7_
      clear hb HCP
      refine hK.out _ _ ⟨(blk_cell HT.out 0).trans rfl, (blk_cell HN.out 0).trans rfl⟩ (fun hHeld => ?_)
      clear hK K
      refine norm_ (a' := ?_) ?_ ?_
      rotate_left
      · show Act.put _ (some 22) _ = _
        simp only [Act.put, List.setIfInBounds_toArray, List.set_cons_zero, List.set_cons_succ, i64_w, i32_w]
        rfl
      refine pure_ (i := 5) (N := some 17) (v := ?_) (a' := ?_) #[true, true, true, true, true, true, false, false, false, false] rfl rfl (by kernel_rfl) (fun _ _ _ h => h) (Or.inl ⟨by rfl, ?_⟩) ?_ ?_
      rotate_left
      · intro w'
        go_simp
        with_reducible rfl
      rotate_left
      · simp only [Act.put, List.setIfInBounds_toArray, List.set_cons_zero, List.set_cons_succ, i64_w, i32_w]
        rfl
      refine pure_ (i := 6) (N := some 23) (v := ?_) (a' := ?_) #[true, true, true, true, true, true, true, false, false, false] rfl rfl (by kernel_rfl) (fun _ _ _ h => h) (Or.inl ⟨by rfl, ?_⟩) ?_ ?_
      rotate_left
      · intro w'
        go_simp
        with_reducible rfl
      rotate_left
      · simp only [Act.put, List.setIfInBounds_toArray, List.set_cons_zero, List.set_cons_succ, i64_w, i32_w]
        rfl
      refine pure_ (i := 7) (N := some 24) (v := ?_) (a' := ?_) #[true, true, true, true, true, true, true, true, false, false] rfl rfl (by kernel_rfl) (fun _ _ _ h => h) (Or.inl ⟨by rfl, ?_⟩) ?_ ?_
      rotate_left
      · intro w'
        go_simp
        with_reducible rfl
      rotate_left
      · simp only [Act.put, List.setIfInBounds_toArray, List.set_cons_zero, List.set_cons_succ, i64_w, i32_w]
        rfl
      refine pure_ (i := 8) (N := some 6) (v := ?_) (a' := ?_) #[true, true, true, true, true, true, true, true, true, false] rfl rfl (by kernel_rfl) (fun _ _ _ h => h) (Or.inl ⟨by rfl, ?_⟩) ?_ ?_
      rotate_left
      · intro w'
        go_simp
        with_reducible rfl
      rotate_left
      · simp only [Act.put, List.setIfInBounds_toArray, List.set_cons_zero, List.set_cons_succ, i64_w, i32_w]
        rfl
      refine pure_ (i := 9) (N := some 7) (v := ?_) (a' := ?_) #[true, true, true, true, true, true, true, true, true, true] rfl rfl (by kernel_rfl) (fun _ _ _ h => h) (Or.inl ⟨by rfl, ?_⟩) ?_ ?_
      rotate_left
      · intro w'
        go_simp
        with_reducible rfl
      rotate_left
      · simp only [Act.put, List.setIfInBounds_toArray, List.set_cons_zero, List.set_cons_succ, i64_w, i32_w]
        rfl
      refine done_ (by kernel_rfl) ?_
      have h := H.out
      clear hHeld H
      by_cases c3_ : o1 > o2
      · rw [if_pos c3_] at h
        obtain ⟨c2, hc2, h⟩ := Option.bind_eq_some_iff.mp h
        have HC2 := Aside0.mk hc2
        cases h
        have d4 : decide (o1 > o2) = true := decide_eq_true c3_
        have d5 : decide (o2 < o1) = true := decide_eq_true c3_
        clear c3_ hc2
        go_wp2_with (first | (go_at_call 116; (with_reducible refine (impl_copied.calls _ _ v c2 _ (row3_C HG.out (by omega)) (Nat.le_refl _) HC2.out).mono ?_); rintro e w7 ⟨vc, rfl, hcr, hb⟩; obtain ⟨Av, cv, rfl⟩ := Kd.R_slice hcr; have HSZ := Aside0.mk (below_size HB.out); have n0_ := Aside0.mk ((hb.block g (blk_lt HG.out)).trans HG.out); have n1_ := Aside0.mk ((hb.block gs (blk_lt HS.out)).trans HS.out); have n2_ := Aside0.mk ((hb.block gt (blk_lt HT.out)).trans HT.out); have n3_ := Aside0.mk ((hb.block gn (blk_lt HN.out)).trans HN.out); have n4_ := Aside0.mk ((hb.block gb (blk_lt HBB.out)).trans HBB.out); have n5_ := Aside0.mk (Kd.R_new3 hcr HG.out HS.out HN.out); have n6_ := Aside0.mk (below_step HB.out hb); have n7_ := Aside0.mk (below_step HBW.out hb); clear HG HS HT HN HBB HR HB HBW; have HG := n0_; have HS := n1_; have HT := n2_; have HN := n3_; have HBB := n4_; have HR := n5_; have HB := n6_; have HBW := n7_; clear n0_ n1_ n2_ n3_ n4_ n5_ n6_ n7_; clear hb hcr) | (go_at_call 113; (with_reducible refine (impl_total.calls k _ _ v z _ (row3_C HG.out (by omega)) (Nat.le_refl _) HZ.out).mono ?_); rintro e w8 ⟨rfl, ⟨nd2, rfl⟩⟩; have n0_ := Aside0.mk (blk_drewN HG.out nd2); have n1_ := Aside0.mk (blk_drewN HS.out nd2); have n2_ := Aside0.mk (blk_drewN HT.out nd2); have n3_ := Aside0.mk (blk_drewN HN.out nd2); have n4_ := Aside0.mk (blk_drewN HBB.out nd2); have n5_ := Aside0.mk (Kd.R_drewN HR.out nd2); have n6_ := Aside0.mk (pw_below_drewN HB.out nd2); have n7_ := Aside0.mk (pw_below_drewN HBW.out nd2); clear HG HS HT HN HBB HR HB HBW; have HG := n0_; have HS := n1_; have HT := n2_; have HN := n3_; have HBB := n4_; have HR := n5_; have HB := n6_; have HBW := n7_; clear n0_ n1_ n2_ n3_ n4_ n5_ n6_ n7_; generalize World.drewN _ nd2 = w8 at HG HS HT HN HBB HR HB HBW ⊢; have hs0 : w8.cell? ⟨gs, 0, none⟩ = some (.int .i64 size) := (blk_cell HS.out 0).trans rfl; obtain ⟨bv, hbv⟩ : ∃ bv, bv = vw := ⟨_, rfl⟩; rw [← hbv] at HBB; have hb0 : w8.cell? ⟨gb, 0, none⟩ = some bv := (blk_cell HBB.out 0).trans rfl; have hb1 : w8.cell? ⟨gb, 1, none⟩ = some (.int .i64 quota) := (blk_cell HBB.out 1).trans rfl; have hfs := blk_frozen HS.out 0; have hfb0 := blk_frozen HBB.out 0; have hfb1 := blk_frozen HBB.out 1; have hne1 : ¬ gs = gb := blk_ne HS.out HBB.out (by decide); have hne2 : ¬ gb = gs := fun e => hne1 e.symm))
        first | go_end0 | ((try simp only [Exit.inBlock, Exit.then]); refine bodyPost_ret (results_none rfl _ _ _) rfl ?_)
        obtain ⟨d1, d2, d3, d4, d5⟩ := HE.out
        have f1 : g ≠ gb := blk_ne HG.out HBB.out (by decide)
        have f2 : gt ≠ gb := blk_ne HT.out HBB.out (by decide)
        have f3 : gn ≠ gb := blk_ne HN.out HBB.out (by decide)
        have f4 : gt ≠ gs := blk_ne HT.out HS.out (by decide)
        refine ⟨rfl, blk_far (blk_far (blk_far HG.out f1 _) f1 _) (Ne.symm d4) _, blk_put (blk_far (blk_far HS.out hne1 _) hne1 _) 0 _ rfl, blk_far (blk_far (blk_far HT.out f2 _) f2 _) f4 _, blk_far (blk_far (blk_far HN.out f3 _) f3 _) (Ne.symm d3) _, _, blk_far (blk_put (blk_put HBB.out 0 _ rfl) 1 _ rfl) hne2 _, ?_, below_set (below_set (below_set HB.out d2) d2) d1, by simpa [World.setCell] using below_size HBW.out, fun i hi n1 n2 => (Below.heap_setCell _ ⟨gs, 0, none⟩ _ i n1).trans ((Below.heap_setCell _ ⟨gb, 1, none⟩ _ i n2).trans ((Below.heap_setCell _ ⟨gb, 0, none⟩ _ i n2).trans (HBW.out.block i hi)))⟩
        have r1 := Kd.R_types HR.out HBB.out (by decide)
        have r2 := Kd.R_far (p := ⟨gb, 0, none⟩) r1 (fun _ hk => hk.2) (Value.slice Av c2.length cv)
        have r3 := Kd.R_far (p := ⟨gb, 1, none⟩) r2 (fun _ hk => hk.2) (Value.int .i64 (wrap64 (o2 + 1)))
        exact Kd.R_lower (Kd.R_mono (Kd.R_far (p := ⟨gs, 0, none⟩) r3 (fun _ hk => hk.1.2.1) (Value.int .i64 z)) (fun _ hk => hk.1)) HSZ.out
      · rw [if_neg c3_] at h
        cases h
        have d4 : decide (o1 > o2) = false := decide_eq_false c3_
        have d5 : decide (o2 < o1) = false := decide_eq_false c3_
        clear c3_
        go_wp2
        first | go_end0 | ((try simp only [Exit.inBlock, Exit.then]); refine bodyPost_ret (results_none rfl _ _ _) rfl ?_)
        exact ⟨rfl, HG.out, HS.out, HT.out, HN.out, _, HBB.out, HR.out, HB.out, below_size HBW.out, fun i hi _ _ => HBW.out.block i hi⟩
def impl_VoteOf.f (k : Nat) (a0 : Int) (l1 : List Int) : Option (List Int × Int × Bool) :=
  (impl_isTable.f k a0 l1).bind fun t => if t = true then (impl_isGame.f k a0 l1).bind fun u => if u = true then (if 0 ≤ a0 ∧ a0 ≤ 8 then ((wts a0.toNat a0.toNat).foldlM (impl_VoteOf.step k l1 a0) ([], 0, 1000000000)).bind fun s => if s.2.2 = 1000000000 then some ([], 0, false) else some (s.1, s.2.1, true) else none) else some ([], 0, false) else some ([], 0, false)
/-- What stands between two lists of weights. -/
def impl_VoteOf.Inv (k : Nat) (l1 : List Int) (n : Nat) (A1 : Option Addr) (c1 : Nat) (w : World) (gs gt gn gb gr g : Nat) (ds : List (List Int)) (W : World) : Prop := ∃ (s : List Int × Int × Int) (vw : Value), ds.foldlM (impl_VoteOf.step k l1 (n : Int)) ([], 0, 1000000000) = some s ∧
  W.heap[gs]? = some (.cells #[.int .i64 s.2.2] 3 (0, 0)) ∧ W.heap[gt]? = some (.cells #[.slice A1 l1.length c1] 24 (0, 0)) ∧ W.heap[gn]? = some (.cells #[.int .i64 (n : Int)] 3 (0, 0)) ∧
  W.heap[gb]? = some (.cells #[vw, .int .i64 s.2.1] 57 (0, 0)) ∧ W.heap[gr]? = some (.cells #[.slice none 0 0, .int .i64 0] 57 (0, 0)) ∧
  Kd.R (Kd.int .i64) 3 W w.heap.size (fun k => k ≠ g ∧ k ≠ gs ∧ k ≠ gn) vw s.1 ∧ Below w.heap.size w W
theorem impl_VoteOf.sets (k : Nat) (l1 : List Int) (n : Nat) (A1 : Option Addr) (c1 : Nat) (w : World) (gs gt gn gb gr g : Nat) (e1 : gs ≠ g) (e2 : gt ≠ g) (e3 : gn ≠ g) (e4 : gb ≠ g) (e5 : gr ≠ g) (hg : w.heap.size ≤ g) (ds : List (List Int)) (W : World) (i : Nat) (v : Value) (h : impl_VoteOf.Inv k l1 n A1 c1 w gs gt gn gb gr g ds W) :
    impl_VoteOf.Inv k l1 n A1 c1 w gs gt gn gb gr g ds (W.setCell ⟨g, i, none⟩ v) := by
  obtain ⟨s, vw, i1, i2, i3, i4, i5, i6, i7, i8⟩ := h
  exact ⟨s, vw, i1, blk_far i2 e1 _, blk_far i3 e2 _, blk_far i4 e3 _, blk_far i5 e4 _, blk_far i6 e5 _, Kd.R_far i7 (fun _ hk => hk.1) _, below_set i8 hg⟩
theorem impl_VoteOf.drews (k : Nat) (l1 : List Int) (n : Nat) (A1 : Option Addr) (c1 : Nat) (w : World) (gs gt gn gb gr g : Nat) (ds : List (List Int)) (W : World) (h : impl_VoteOf.Inv k l1 n A1 c1 w gs gt gn gb gr g ds W) : impl_VoteOf.Inv k l1 n A1 c1 w gs gt gn gb gr g ds W.drew := by
  obtain ⟨s, vw, i1, i2, i3, i4, i5, i6, i7, i8⟩ := h
  exact ⟨s, vw, i1, blk_drew i2, blk_drew i3, blk_drew i4, blk_drew i5, blk_drew i6, Kd.R_drew i7, below_drew1 i8⟩
theorem impl_VoteOf.all (k : Nat) (l1 : List Int) (n : Nat) (A1 : Option Addr) (c1 : Nat) (w wc : World) (gs gt gn gb gr : Nat) (s : List Int × Int × Int) (hn : n ≤ 8) (hs : (wts n n).foldlM (impl_VoteOf.step k l1 (n : Int)) ([], 0, 1000000000) = some s)
    (hC : Kd.C (Kd.int .i64) w A1 l1.length l1) (hc : l1.length ≤ c1) (b1 : w.heap.size ≤ gs) (b2 : w.heap.size ≤ gb) (b3 : w.heap.size ≤ gr) (d1 : gs ≠ gn) (d2 : gr ≠ gs) (d3 : gr ≠ gb)
    (i2 : wc.heap[gs]? = some (.cells #[.int .i64 1000000000] 3 (0, 0))) (i3 : wc.heap[gt]? = some (.cells #[.slice A1 l1.length c1] 24 (0, 0))) (i4 : wc.heap[gn]? = some (.cells #[.int .i64 (n : Int)] 3 (0, 0)))
    (i5 : wc.heap[gb]? = some (.cells #[.slice none 0 0, .int .i64 0] 57 (0, 0))) (i6 : wc.heap[gr]? = some (.cells #[.slice none 0 0, .int .i64 0] 57 (0, 0))) (i8 : Below w.heap.size w wc) :
    Calls Try.prog 110 #[.int .i64 (n : Int), .int .i64 (n : Int), .func (.func 111) #[] #[.pointer (some ⟨gs, 0, none⟩), .pointer (some ⟨gt, 0, none⟩), .pointer (some ⟨gn, 0, none⟩), .pointer (some ⟨gb, 0, none⟩)]] wc
      fun e w' => e = .returned (.tuple #[]) ∧ impl_VoteOf.Inv k l1 n A1 c1 w gs gt gn gb gr wc.heap.size (wts n n) w' := by
  have f1 := blk_lt i2
  have f2 := blk_lt i3
  have f3 := blk_lt i4
  have f4 := blk_lt i5
  have f5 := blk_lt i6
  refine smallWeights_calls n n hn (by omega) 111 Try.f111 Try.func111 (by kernel_rfl) rfl _ wc (impl_VoteOf.Inv k l1 n A1 c1 w gs gt gn gb gr wc.heap.size) (fun cs => ?_) (impl_VoteOf.sets k l1 n A1 c1 w gs gt gn gb gr wc.heap.size (by omega) (by omega) (by omega) (by omega) (by omega) i8.size) (impl_VoteOf.drews k l1 n A1 c1 w gs gt gn gb gr wc.heap.size) (fun i v W hv h hr => ?_)
  · exact ⟨_, .slice none 0 0, rfl, blk_alloc i2 _, blk_alloc i3 _, blk_alloc i4 _, blk_alloc i5 _, blk_alloc i6 _, Kd.R_nil _ _ _ _ _, below_alloc i8 _⟩
  · obtain ⟨s1, vw, j1, j2, j3, j4, j5, j6, j7, j8⟩ := h
    have hm := List.mem_of_getElem? hv
    have hvl := wts_len n n v hm
    subst hvl
    obtain ⟨s2, hs2⟩ := foldlM_pre _ _ (i + 1) _ _ hs
    have hs3 := hs2
    rw [foldlM_take _ _ i v _ hv, j1] at hs3
    have h1 := impl_VoteOf.one k l1 v s1.1 A1 c1 s1.2.1 s1.2.2 s2 vw wc.heap.size gs gt gn gb w W (by omega) hr j2 j3 j4 j5 j7 hC hc j8 b1 b2 d1 (by omega) (by omega) hs3
    refine h1.mono ?_
    rintro e W' ⟨rfl, q1, q2, q3, q4, vw', q5, q6, q7, q8, q9⟩
    exact ⟨rfl, ⟨s2, vw', hs2, q2, q3, q4, q5, (q9 _ (blk_lt j6) d2 d3).trans j6, q6, q7⟩, q1.trans hr.symm⟩
set_option maxHeartbeats 8000000 in
set_option maxRecDepth 100000 in
theorem impl_VoteOf.calls (k : Nat) (a0 : Int) (A1 : Option Addr) (c1 : Nat) (l1 : List Int) (r1 : List Int) (r2 : Int) (r3 : Bool) (w : World) (hr1 : Kd.C (Kd.int .i64) w A1 l1.length l1) (hc1 : l1.length ≤ c1) (h : impl_VoteOf.f k a0 l1 = some (r1, r2, r3)) :
    Calls Try.prog 51 #[.int .i64 a0, .slice A1 l1.length c1] w fun e w' => ∃ v0_ : Value, e = .returned (.tuple #[.agg #[v0_, .int .i64 r2], .bool r3]) ∧ Kd.R (Kd.int .i64) 3 w' w.heap.size (fun _ => True) v0_ r1 ∧ Below w.heap.size w w' := by
  have HR1 := Aside0.mk hr1
  have HC1 := Aside0.mk hc1
  clear hr1 hc1
  unfold impl_VoteOf.f at h
  obtain ⟨t, ht, h⟩ := Option.bind_eq_some_iff.mp h
  have HT_ := Aside0.mk ht
  clear ht
  have BN := Aside0.mk (blk_alloc (blk_alloc (blk_new w (.cells #[.int .i64 a0] 3)) (.cells #[.slice A1 l1.length c1] 24)) (.cells #[.slice none 0 0, .int .i64 0] 57))
  have BT := Aside0.mk (show (((w.alloc (.cells #[.int .i64 a0] 3)).alloc (.cells #[.slice A1 l1.length c1] 24)).alloc (.cells #[.slice none 0 0, .int .i64 0] 57)).heap[w.heap.size + 1]? = some (.cells #[.slice A1 l1.length c1] 24 (0, 0)) from blk_alloc (by simpa using blk_new (w.alloc (.cells #[.int .i64 a0] 3)) (.cells #[.slice A1 l1.length c1] 24)) _)
  have BR := Aside0.mk (show (((w.alloc (.cells #[.int .i64 a0] 3)).alloc (.cells #[.slice A1 l1.length c1] 24)).alloc (.cells #[.slice none 0 0, .int .i64 0] 57)).heap[w.heap.size + 1 + 1]? = some (.cells #[.slice none 0 0, .int .i64 0] 57 (0, 0)) by simpa using blk_new ((w.alloc (.cells #[.int .i64 a0] 3)).alloc (.cells #[.slice A1 l1.length c1] 24)) (.cells #[.slice none 0 0, .int .i64 0] 57))
  have HB := Aside0.mk (below_alloc (below_alloc (below_alloc (Below.refl w.heap.size w) (.cells #[.int .i64 a0] 3)) (.cells #[.slice A1 l1.length c1] 24)) (.cells #[.slice none 0 0, .int .i64 0] 57))
  go_enter Try.func51, Try.ntmps51
  cases t with
  | false =>
    rw [if_neg (by decide)] at h
    cases h
    go_wp2_with (first | (go_at_call 70; (with_reducible refine (impl_isTable.calls k a0 _ _ l1 false _ ?s1 ?s2 HT_.out).mono ?_); (case s1 => exact Kd.C_below HR1.out HB.out); (case s2 => exact HC1.out); rintro e w' ⟨rfl, ⟨nd1, rfl⟩⟩; have n0_ := Aside0.mk (blk_drewN BN.out nd1); have n1_ := Aside0.mk (blk_drewN BT.out nd1); have n2_ := Aside0.mk (blk_drewN BR.out nd1); have n3_ := Aside0.mk (pw_below_drewN HB.out nd1); clear BN BT BR HB; have BN := n0_; have BT := n1_; have BR := n2_; have HB := n3_; clear n0_ n1_ n2_ n3_; generalize World.drewN _ nd1 = w4 at BN BT BR HB ⊢; have hzn := (blk_cell BN.out 0).trans (show _ = some (Value.int .i64 a0) from rfl); have hzt := (blk_cell BT.out 0).trans (show _ = some (Value.slice A1 l1.length c1) from rfl); have hr0 := (blk_cell BR.out 0).trans (show _ = some (Value.slice none 0 0) from rfl); have hr1 := (blk_cell BR.out 1).trans (show _ = some (Value.int .i64 0) from rfl); have hf0 := blk_frozen BR.out 0; have hf1 := blk_frozen BR.out 1))
    refine bodyPost_ret (results_ct rfl _ _ (w.heap.size + 1 + 1) 57 #[.slice none 0 0, .int .i64 0] (0, 0) _ rfl (blk_put (blk_put BR.out 0 (.slice none 0 0) rfl) 1 (.int .i64 0) rfl) Try.underlying57 rfl (by kernel_rfl)) rfl ?_
    exact ⟨_, rfl, Kd.R_nil _ _ _ _ _, below_set (below_set HB.out (by omega)) (by omega)⟩
  | true =>
    rw [if_pos rfl] at h
    obtain ⟨u, hu, h⟩ := Option.bind_eq_some_iff.mp h
    have HU_ := Aside0.mk hu
    clear hu
    cases u with
    | false =>
      rw [if_neg (by decide)] at h
      cases h
      go_wp2_with (first | (go_at_call 70; (with_reducible refine (impl_isTable.calls k a0 _ _ l1 true _ ?s1 ?s2 HT_.out).mono ?_); (case s1 => exact Kd.C_below HR1.out HB.out); (case s2 => exact HC1.out); rintro e w' ⟨rfl, ⟨nd1, rfl⟩⟩; have n0_ := Aside0.mk (blk_drewN BN.out nd1); have n1_ := Aside0.mk (blk_drewN BT.out nd1); have n2_ := Aside0.mk (blk_drewN BR.out nd1); have n3_ := Aside0.mk (pw_below_drewN HB.out nd1); clear BN BT BR HB; have BN := n0_; have BT := n1_; have BR := n2_; have HB := n3_; clear n0_ n1_ n2_ n3_; generalize World.drewN _ nd1 = w4 at BN BT BR HB ⊢; have hzn := (blk_cell BN.out 0).trans (show _ = some (Value.int .i64 a0) from rfl); have hzt := (blk_cell BT.out 0).trans (show _ = some (Value.slice A1 l1.length c1) from rfl); have hr0 := (blk_cell BR.out 0).trans (show _ = some (Value.slice none 0 0) from rfl); have hr1 := (blk_cell BR.out 1).trans (show _ = some (Value.int .i64 0) from rfl); have hf0 := blk_frozen BR.out 0; have hf1 := blk_frozen BR.out 1) | (go_at_call 109; (with_reducible refine (impl_isGame.calls k a0 _ _ l1 false _ ?s1 ?s2 HU_.out).mono ?_); (case s1 => exact Kd.C_below HR1.out HB.out); (case s2 => exact HC1.out); rintro e w' ⟨rfl, ⟨nd2, rfl⟩⟩; have n0_ := Aside0.mk (blk_drewN BN.out nd2); have n1_ := Aside0.mk (blk_drewN BT.out nd2); have n2_ := Aside0.mk (blk_drewN BR.out nd2); have n3_ := Aside0.mk (pw_below_drewN HB.out nd2); clear BN BT BR HB; have BN := n0_; have BT := n1_; have BR := n2_; have HB := n3_; clear n0_ n1_ n2_ n3_; generalize World.drewN _ nd2 = w5 at BN BT BR HB ⊢; have hzn := (blk_cell BN.out 0).trans (show _ = some (Value.int .i64 a0) from rfl); have hzt := (blk_cell BT.out 0).trans (show _ = some (Value.slice A1 l1.length c1) from rfl); have hr0 := (blk_cell BR.out 0).trans (show _ = some (Value.slice none 0 0) from rfl); have hr1 := (blk_cell BR.out 1).trans (show _ = some (Value.int .i64 0) from rfl); have hf0 := blk_frozen BR.out 0; have hf1 := blk_frozen BR.out 1))
      refine bodyPost_ret (results_ct rfl _ _ (w.heap.size + 1 + 1) 57 #[.slice none 0 0, .int .i64 0] (0, 0) _ rfl (blk_put (blk_put BR.out 0 (.slice none 0 0) rfl) 1 (.int .i64 0) rfl) Try.underlying57 rfl (by kernel_rfl)) rfl ?_
      exact ⟨_, rfl, Kd.R_nil _ _ _ _ _, below_set (below_set HB.out (by omega)) (by omega)⟩
    | true =>
      rw [if_pos rfl] at h
      by_cases c : 0 ≤ a0 ∧ a0 ≤ 8
      · rw [if_pos c] at h
        obtain ⟨n, rfl⟩ := Int.eq_ofNat_of_zero_le c.1
        have hn : n ≤ 8 := by omega
        simp only [Int.toNat_natCast] at h
        obtain ⟨s, hs, h⟩ := Option.bind_eq_some_iff.mp h
        have HS := Aside0.mk hs
        clear hs c
        obtain ⟨sl, sq, sz⟩ := s
        simp only at h
        have hw5 : True := trivial
        by_cases cz : sz = 1000000000
        · rw [if_pos cz] at h
          cases h
          have d1 : (sz == 1000000000) = true := beq_iff_eq.mpr cz
          clear cz
          go_wp2_with (first | (go_at_call 70; (with_reducible refine (impl_isTable.calls k (n : Int) _ _ l1 true _ ?s1 ?s2 HT_.out).mono ?_); (case s1 => exact Kd.C_below HR1.out HB.out); (case s2 => exact HC1.out); rintro e w' ⟨rfl, ⟨nd1, rfl⟩⟩; have n0_ := Aside0.mk (blk_drewN BN.out nd1); have n1_ := Aside0.mk (blk_drewN BT.out nd1); have n2_ := Aside0.mk (blk_drewN BR.out nd1); have n3_ := Aside0.mk (pw_below_drewN HB.out nd1); clear BN BT BR HB; have BN := n0_; have BT := n1_; have BR := n2_; have HB := n3_; clear n0_ n1_ n2_ n3_; generalize World.drewN _ nd1 = w4 at BN BT BR HB ⊢; have hzn := (blk_cell BN.out 0).trans (show _ = some (Value.int .i64 (n : Int)) from rfl); have hzt := (blk_cell BT.out 0).trans (show _ = some (Value.slice A1 l1.length c1) from rfl); have hr0 := (blk_cell BR.out 0).trans (show _ = some (Value.slice none 0 0) from rfl); have hr1 := (blk_cell BR.out 1).trans (show _ = some (Value.int .i64 0) from rfl); have hf0 := blk_frozen BR.out 0; have hf1 := blk_frozen BR.out 1) | (go_at_call 109; (with_reducible refine (impl_isGame.calls k (n : Int) _ _ l1 true _ ?s1 ?s2 HU_.out).mono ?_); (case s1 => exact Kd.C_below HR1.out HB.out); (case s2 => exact HC1.out); rintro e w' ⟨rfl, ⟨nd2, rfl⟩⟩; have n0_ := Aside0.mk (blk_drewN BN.out nd2); have n1_ := Aside0.mk (blk_drewN BT.out nd2); have n2_ := Aside0.mk (blk_drewN BR.out nd2); have n3_ := Aside0.mk (pw_below_drewN HB.out nd2); clear BN BT BR HB; have BN := n0_; have BT := n1_; have BR := n2_; have HB := n3_; clear n0_ n1_ n2_ n3_; generalize World.drewN _ nd2 = w5 at BN BT BR HB ⊢; have hzn := (blk_cell BN.out 0).trans (show _ = some (Value.int .i64 (n : Int)) from rfl); have hzt := (blk_cell BT.out 0).trans (show _ = some (Value.slice A1 l1.length c1) from rfl); have hr0 := (blk_cell BR.out 0).trans (show _ = some (Value.slice none 0 0) from rfl); have hr1 := (blk_cell BR.out 1).trans (show _ = some (Value.int .i64 0) from rfl); have hf0 := blk_frozen BR.out 0; have hf1 := blk_frozen BR.out 1; have hz5 := (blk_cell (blk_alloc (blk_alloc BN.out (.cells #[.slice none 0 0, .int .i64 0] 57)) (.cells #[.int .i64 1000000000] 3)) 0).trans (show _ = some (Value.int .i64 (n : Int)) from rfl); have I2 := Aside0.mk (show ((w5.alloc (.cells #[.slice none 0 0, .int .i64 0] 57)).alloc (.cells #[.int .i64 1000000000] 3)).heap[w5.heap.size + 1]? = some (.cells #[.int .i64 1000000000] 3 (0, 0)) by simpa using blk_new (w5.alloc (.cells #[.slice none 0 0, .int .i64 0] 57)) (.cells #[.int .i64 1000000000] 3)); have I3 := Aside0.mk (blk_alloc (blk_alloc BT.out (.cells #[.slice none 0 0, .int .i64 0] 57)) (.cells #[.int .i64 1000000000] 3)); have I4 := Aside0.mk (blk_alloc (blk_alloc BN.out (.cells #[.slice none 0 0, .int .i64 0] 57)) (.cells #[.int .i64 1000000000] 3)); have I5 := Aside0.mk (blk_alloc (blk_new w5 (.cells #[.slice none 0 0, .int .i64 0] 57)) (.cells #[.int .i64 1000000000] 3)); have I6 := Aside0.mk (blk_alloc (blk_alloc BR.out (.cells #[.slice none 0 0, .int .i64 0] 57)) (.cells #[.int .i64 1000000000] 3)); have I8 := Aside0.mk (below_alloc (below_alloc HB.out (.cells #[.slice none 0 0, .int .i64 0] 57)) (.cells #[.int .i64 1000000000] 3)); have q1 := blk_lt BN.out; have q2 := blk_lt BR.out; have q3 := HB.out.size) | (go_at_call 110; (with_reducible refine (impl_VoteOf.all k l1 n A1 c1 w _ (w5.heap.size + 1) (w.heap.size + 1) w.heap.size w5.heap.size (w.heap.size + 1 + 1) (sl, sq, sz) hn HS.out HR1.out HC1.out (by omega) (by omega) (by omega) (by omega) (by omega) (by omega) I2.out I3.out I4.out I5.out I6.out I8.out).mono ?_); rintro e w6 ⟨rfl, hi⟩; obtain ⟨s2, vw, i1, i2, i3, i4, i5, i6, i7, i8⟩ := hi; rw [HS.out] at i1; cases i1; obtain ⟨Av, cv, rfl⟩ := Kd.R_slice i7; have J2 := Aside0.mk i2; have J5 := Aside0.mk i5; have J6 := Aside0.mk i6; have J7 := Aside0.mk i7; have J8 := Aside0.mk i8; clear hz5; have hs0 := (blk_cell i2 0).trans (show _ = some (Value.int .i64 sz) from rfl); have hb0 := (blk_cell i5 0).trans (show _ = some (Value.slice Av sl.length cv) from rfl); have hb1 := (blk_cell i5 1).trans (show _ = some (Value.int .i64 sq) from rfl); have hr0 := (blk_cell i6 0).trans (show _ = some (Value.slice none 0 0) from rfl); have hr1 := (blk_cell i6 1).trans (show _ = some (Value.int .i64 0) from rfl); have hf0 := blk_frozen i6 0; have hf1 := blk_frozen i6 1; clear i2 i3 i4 i5 i6 i7 i8))
          refine bodyPost_ret (results_ct rfl _ _ (w.heap.size + 1 + 1) 57 #[.slice none 0 0, .int .i64 0] (0, 0) _ rfl (blk_put (blk_put J6.out 0 (.slice none 0 0) rfl) 1 (.int .i64 0) rfl) Try.underlying57 rfl (by kernel_rfl)) rfl ?_
          exact ⟨_, rfl, Kd.R_nil _ _ _ _ _, below_set (below_set J8.out (by omega)) (by omega)⟩
        · rw [if_neg cz] at h
          simp only [Option.some.injEq, Prod.mk.injEq] at h
          obtain ⟨e1_, e2_, e3_⟩ := h
          subst e1_
          subst e2_
          subst e3_
          have d1 : (sz == 1000000000) = false := beq_eq_false_iff_ne.mpr cz
          clear cz
          go_wp2_with (first | (go_at_call 70; (with_reducible refine (impl_isTable.calls k (n : Int) _ _ l1 true _ ?s1 ?s2 HT_.out).mono ?_); (case s1 => exact Kd.C_below HR1.out HB.out); (case s2 => exact HC1.out); rintro e w' ⟨rfl, ⟨nd1, rfl⟩⟩; have n0_ := Aside0.mk (blk_drewN BN.out nd1); have n1_ := Aside0.mk (blk_drewN BT.out nd1); have n2_ := Aside0.mk (blk_drewN BR.out nd1); have n3_ := Aside0.mk (pw_below_drewN HB.out nd1); clear BN BT BR HB; have BN := n0_; have BT := n1_; have BR := n2_; have HB := n3_; clear n0_ n1_ n2_ n3_; generalize World.drewN _ nd1 = w4 at BN BT BR HB ⊢; have hzn := (blk_cell BN.out 0).trans (show _ = some (Value.int .i64 (n : Int)) from rfl); have hzt := (blk_cell BT.out 0).trans (show _ = some (Value.slice A1 l1.length c1) from rfl); have hr0 := (blk_cell BR.out 0).trans (show _ = some (Value.slice none 0 0) from rfl); have hr1 := (blk_cell BR.out 1).trans (show _ = some (Value.int .i64 0) from rfl); have hf0 := blk_frozen BR.out 0; have hf1 := blk_frozen BR.out 1) | (go_at_call 109; (with_reducible refine (impl_isGame.calls k (n : Int) _ _ l1 true _ ?s1 ?s2 HU_.out).mono ?_); (case s1 => exact Kd.C_below HR1.out HB.out); (case s2 => exact HC1.out); rintro e w' ⟨rfl, ⟨nd2, rfl⟩⟩; have n0_ := Aside0.mk (blk_drewN BN.out nd2); have n1_ := Aside0.mk (blk_drewN BT.out nd2); have n2_ := Aside0.mk (blk_drewN BR.out nd2); have n3_ := Aside0.mk (pw_below_drewN HB.out nd2); clear BN BT BR HB; have BN := n0_; have BT := n1_; have BR := n2_; have HB := n3_; clear n0_ n1_ n2_ n3_; generalize World.drewN _ nd2 = w5 at BN BT BR HB ⊢; have hzn := (blk_cell BN.out 0).trans (show _ = some (Value.int .i64 (n : Int)) from rfl); have hzt := (blk_cell BT.out 0).trans (show _ = some (Value.slice A1 l1.length c1) from rfl); have hr0 := (blk_cell BR.out 0).trans (show _ = some (Value.slice none 0 0) from rfl); have hr1 := (blk_cell BR.out 1).trans (show _ = some (Value.int .i64 0) from rfl); have hf0 := blk_frozen BR.out 0; have hf1 := blk_frozen BR.out 1; have hz5 := (blk_cell (blk_alloc (blk_alloc BN.out (.cells #[.slice none 0 0, .int .i64 0] 57)) (.cells #[.int .i64 1000000000] 3)) 0).trans (show _ = some (Value.int .i64 (n : Int)) from rfl); have I2 := Aside0.mk (show ((w5.alloc (.cells #[.slice none 0 0, .int .i64 0] 57)).alloc (.cells #[.int .i64 1000000000] 3)).heap[w5.heap.size + 1]? = some (.cells #[.int .i64 1000000000] 3 (0, 0)) by simpa using blk_new (w5.alloc (.cells #[.slice none 0 0, .int .i64 0] 57)) (.cells #[.int .i64 1000000000] 3)); have I3 := Aside0.mk (blk_alloc (blk_alloc BT.out (.cells #[.slice none 0 0, .int .i64 0] 57)) (.cells #[.int .i64 1000000000] 3)); have I4 := Aside0.mk (blk_alloc (blk_alloc BN.out (.cells #[.slice none 0 0, .int .i64 0] 57)) (.cells #[.int .i64 1000000000] 3)); have I5 := Aside0.mk (blk_alloc (blk_new w5 (.cells #[.slice none 0 0, .int .i64 0] 57)) (.cells #[.int .i64 1000000000] 3)); have I6 := Aside0.mk (blk_alloc (blk_alloc BR.out (.cells #[.slice none 0 0, .int .i64 0] 57)) (.cells #[.int .i64 1000000000] 3)); have I8 := Aside0.mk (below_alloc (below_alloc HB.out (.cells #[.slice none 0 0, .int .i64 0] 57)) (.cells #[.int .i64 1000000000] 3)); have q1 := blk_lt BN.out; have q2 := blk_lt BR.out; have q3 := HB.out.size) | (go_at_call 110; (with_reducible refine (impl_VoteOf.all k l1 n A1 c1 w _ (w5.heap.size + 1) (w.heap.size + 1) w.heap.size w5.heap.size (w.heap.size + 1 + 1) (sl, sq, sz) hn HS.out HR1.out HC1.out (by omega) (by omega) (by omega) (by omega) (by omega) (by omega) I2.out I3.out I4.out I5.out I6.out I8.out).mono ?_); rintro e w6 ⟨rfl, hi⟩; obtain ⟨s2, vw, i1, i2, i3, i4, i5, i6, i7, i8⟩ := hi; rw [HS.out] at i1; cases i1; obtain ⟨Av, cv, rfl⟩ := Kd.R_slice i7; have J2 := Aside0.mk i2; have J5 := Aside0.mk i5; have J6 := Aside0.mk i6; have J7 := Aside0.mk i7; have J8 := Aside0.mk i8; clear hz5; have hs0 := (blk_cell i2 0).trans (show _ = some (Value.int .i64 sz) from rfl); have hb0 := (blk_cell i5 0).trans (show _ = some (Value.slice Av sl.length cv) from rfl); have hb1 := (blk_cell i5 1).trans (show _ = some (Value.int .i64 sq) from rfl); have hr0 := (blk_cell i6 0).trans (show _ = some (Value.slice none 0 0) from rfl); have hr1 := (blk_cell i6 1).trans (show _ = some (Value.int .i64 0) from rfl); have hf0 := blk_frozen i6 0; have hf1 := blk_frozen i6 1; clear i2 i3 i4 i5 i6 i7 i8))
          refine bodyPost_ret (results_ct rfl _ _ (w.heap.size + 1 + 1) 57 #[.slice Av sl.length cv, .int .i64 sq] (0, 0) _ rfl (blk_put (blk_put J6.out 0 (.slice Av sl.length cv) rfl) 1 (.int .i64 sq) rfl) Try.underlying57 rfl (by kernel_rfl)) rfl ?_
          exact ⟨_, rfl, Kd.R_mono (Kd.R_far (p := ⟨w.heap.size + 1 + 1, 1, none⟩) (Kd.R_far (p := ⟨w.heap.size + 1 + 1, 0, none⟩) (Kd.R_types J7.out J6.out (by decide)) (fun _ hk => hk.2) (.slice Av sl.length cv)) (fun _ hk => hk.2) (.int .i64 sq)) (fun _ _ => trivial), below_set (below_set J8.out (by omega)) (by omega)⟩
      · rw [if_neg c] at h; cases h
theorem impl_VoteOf.step_mono (t : List Int) (n : Int) (s : List Int × Int × Int) (v : List Int) (k : Nat) : LeO (impl_VoteOf.step k t n s v) (impl_VoteOf.step (k + 1) t n s v) := by
  unfold impl_VoteOf.step
  refine LeO.bind (LeO.refl _) fun mv => LeO.ite (LeO.refl _) ?_
  refine LeO.bind (impl_total.mono _ k) fun z => LeO.ite (LeO.refl _) ?_
  refine LeO.bind (impl_productsOf.mono _ _ k) fun p => ?_
  exact LeO.bind (impl_gap.mono _ _ k) fun q => LeO.refl _
theorem impl_VoteOf.mono : ∀ a0 a1 k, LeO (impl_VoteOf.f k a0 a1) (impl_VoteOf.f (k + 1) a0 a1) := by
  intro a0 a1 k
  unfold impl_VoteOf.f
  refine LeO.bind (impl_isTable.mono _ _ k) fun t => LeO.ite ?_ (LeO.refl _)
  refine LeO.bind (impl_isGame.mono _ _ k) fun u => LeO.ite ?_ (LeO.refl _)
  refine LeO.ite ?_ (LeO.refl _)
  exact LeO.bind (foldlM_mono (fun s v => impl_VoteOf.step_mono a1 a0 s v k) _ _) fun _ => LeO.refl _

/-! ### laws_heldIntS: function 44 -/
def laws_heldIntS.l0 : Nat → List Int → Int → Int → Option (Int)
  | 0, _, _, _ => none
  | k + 1, x0, x1, x5 => if x5 < (x0.length : Int) then (if 0 ≤ x5 then (if (rd x0 x5) = x1 then (laws_heldIntS.l0 k x0 (wrap64 (x1 + 1)) (wrap64 (x5 + 1))) else (some (-1))) else (none)) else (some x1)
def laws_heldIntS.f (k : Nat) (l0 : List Int) (a1 : Int) : Option (Int) := laws_heldIntS.l0 k l0 a1 0
theorem laws_heldIntS.mono_l : ∀ k, (∀ y0 y1 y2, LeO (laws_heldIntS.l0 k y0 y1 y2) (laws_heldIntS.l0 (k + 1) y0 y1 y2))
  | 0 => fun _ _ _ r h => by simp [laws_heldIntS.l0] at h
  | k + 1 => by
    have ih0 := laws_heldIntS.mono_l k
    · intro y0 y1 y2
      unfold laws_heldIntS.l0
      repeat' first
      | (with_reducible exact ih0 _ _ _)
      | (with_reducible exact LeO.refl _)
      | (with_reducible exact LeO.none _)
      | (with_reducible refine LeO.ite ?_ ?_)
      | (with_reducible refine LeO.bind ?_ (fun _ => ?_))
      | exact ih0 _ _ _
      | exact LeO.none _
      | refine LeO.ite ?_ ?_
      | refine LeO.bind ?_ (fun _ => ?_)
theorem laws_heldIntS.mono : ∀ a0 a1 k, LeO (laws_heldIntS.f k a0 a1) (laws_heldIntS.f (k + 1) a0 a1) := by
  intro a0 a1 k
  have ih0 := laws_heldIntS.mono_l k
  unfold laws_heldIntS.f
  repeat' first
      | (with_reducible exact ih0 _ _ _)
      | (with_reducible exact LeO.refl _)
      | (with_reducible exact LeO.none _)
      | (with_reducible refine LeO.ite ?_ ?_)
      | (with_reducible refine LeO.bind ?_ (fun _ => ?_))
      | exact ih0 _ _ _
      | exact LeO.none _
      | refine LeO.ite ?_ ?_
      | refine LeO.bind ?_ (fun _ => ?_)
set_option maxHeartbeats 8000000 in
set_option maxRecDepth 100000 in
theorem laws_heldIntS.calls (k : Nat) (A0 : Option Addr) (c0 : Nat) (l0 : List Int) (a1 : Int) (r : Int) (w : World) (hr0 : Kd.C (Kd.int .i64) w A0 l0.length l0) (hc0 : l0.length ≤ c0) (h : laws_heldIntS.f k l0 a1 = some r) :
    Calls Try.prog 44 #[.slice A0 l0.length c0, .int .i64 a1] w fun e w' => e = .returned (.int .i64 r) ∧ Drawn0 w w' := by
  have HR0 := Aside0.mk hr0
  have HC0 := Aside0.mk hc0
  clear hr0 hc0
  have H : (laws_heldIntS.l0 k l0 a1 0) = some r := h
  clear h
  have H' := Aside0.mk H
  clear H
  go_enter Try.func44, Try.ntmps44
  go_wp2
  go_loopg [1, 5] k (fun kq v1 v5 w' => ∃ (x1_1 : Int) (x5_1 : Int), v1 = .int .i64 x1_1 ∧ v5 = .int .i64 x5_1 ∧ Aside0 (laws_heldIntS.l0 kq l0 x1_1 x5_1 = some r) ∧ Aside0 (kq ≤ k) ∧ Drawn0 w w')
  case atStart => exact ⟨(a1), (0), (by first | rfl | (simp; done) | (simp [*]; done)), (by first | rfl | (simp; done) | (simp [*]; done)), H', ⟨Nat.le_refl _⟩, by repeat (first | exact Drawn0.refl _ | apply Drawn0.step)⟩
  case round =>
    clear H'
    try clear p2
    obtain ⟨x1_1, x5_1, rfl, rfl, HA, HK1, ⟨m1, rfl⟩⟩ := hrel
    cases gk with
    | zero => exact absurd HA.out (by simp [laws_heldIntS.l0])
    | succ k1 =>
      have H := HA.out
      clear HA
      simp only [laws_heldIntS.l0] at H
      by_cases c3 : x5_1 < (l0.length : Int)
      · rw [if_pos c3] at H
        have c3b0 : decide (x5_1 < (l0.length : Int)) = true := decide_eq_true c3
        clear c3
        by_cases c4 : 0 ≤ x5_1
        · rw [if_pos c4] at H
          have c4b0 : decide (0 ≤ x5_1) = true := decide_eq_true c4
          clear c4
          by_cases c5 : (rd l0 x5_1) = x1_1
          · rw [if_pos c5] at H
            have c5b0 : ((rd l0 x5_1) == x1_1) = true := beq_iff_eq.mpr c5
            have c5b1 : ((rd l0 x5_1) != x1_1) = false := bne_eq_false_iff_eq.mpr c5
            clear c5
            have H' := Aside0.mk H
            clear H
            have p228 : 0 ≤ (x5_1 : Int) := of_decide_eq_true (by first | (with_reducible assumption) | assumption)
            have q228 : x5_1 < (l0.length : Int) := of_decide_eq_true (by first | (with_reducible assumption) | assumption)
            obtain ⟨ad228, e228, hx228_0⟩ := Kd.at_int HR0.out x5_1 p228 q228
            cases e228
            replace p228 := eq_true p228
            replace q228 := eq_true q228
            go_wp2
            go_roundg k1
            case measure => have := HK1.out; omega
            case rel => exact ⟨(wrap64 (x1_1 + 1)), (wrap64 (x5_1 + 1)), (by first | rfl | (simp; done) | (simp [*]; done)), (by first | rfl | (simp; done) | (simp [*]; done)), H', ⟨by have := HK1.out; omega⟩, by repeat (first | exact Drawn0.refl _ | apply Drawn0.step)⟩
          · rw [if_neg c5] at H
            have c5b0 : ((rd l0 x5_1) == x1_1) = false := beq_eq_false_iff_ne.mpr c5
            have c5b1 : ((rd l0 x5_1) != x1_1) = true := bne_iff_ne.mpr c5
            obtain rfl := Option.some.inj H
            have p228 : 0 ≤ (x5_1 : Int) := of_decide_eq_true (by first | (with_reducible assumption) | assumption)
            have q228 : x5_1 < (l0.length : Int) := of_decide_eq_true (by first | (with_reducible assumption) | assumption)
            obtain ⟨ad228, e228, hx228_0⟩ := Kd.at_int HR0.out x5_1 p228 q228
            cases e228
            replace p228 := eq_true p228
            replace q228 := eq_true q228
            go_wp2
            go_ret
            exact ⟨by first | rfl | (simp; done) | (simp [*]; done), by repeat (first | exact Drawn0.refl _ | apply Drawn0.step)⟩
        · rw [if_neg c4] at H
          exact absurd H (by simp)
      · rw [if_neg c3] at H
        have c3b0 : decide (x5_1 < (l0.length : Int)) = false := decide_eq_false c3
        clear c3
        obtain rfl := Option.some.inj H
        go_wp2
        go_ret
        exact ⟨by first | rfl | (simp; done) | (simp [*]; done), by repeat (first | exact Drawn0.refl _ | apply Drawn0.step)⟩

/-! ### laws_heldVote: function 52 -/
def laws_heldVote.f (k : Nat) (l0_0 : List Int) (a0_1 : Int) (a1 : Int) : Option (Int) := (laws_heldIntS.f k l0_0 a1).bind fun t230 => (if t230 < 0 then (some (-1)) else (some t230))
theorem laws_heldVote.mono : ∀ a0 a1 a2 k, LeO (laws_heldVote.f k a0 a1 a2) (laws_heldVote.f (k + 1) a0 a1 a2) := by
  intro a0 a1 a2 k
  unfold laws_heldVote.f
  repeat' first
      | (with_reducible exact laws_heldIntS.mono _ _ _)
      | (with_reducible exact LeO.refl _)
      | (with_reducible exact LeO.none _)
      | (with_reducible refine LeO.ite ?_ ?_)
      | (with_reducible refine LeO.bind ?_ (fun _ => ?_))
      | exact laws_heldIntS.mono _ _ _
      | exact LeO.none _
      | refine LeO.ite ?_ ?_
      | refine LeO.bind ?_ (fun _ => ?_)
set_option maxHeartbeats 8000000 in
set_option maxRecDepth 100000 in
theorem laws_heldVote.calls (k : Nat) (A0_0 : Option Addr) (c0_0 : Nat) (l0_0 : List Int) (a0_1 : Int) (a1 : Int) (r : Int) (w : World) (hr0_0 : Kd.C (Kd.int .i64) w A0_0 l0_0.length l0_0) (hc0_0 : l0_0.length ≤ c0_0) (h : laws_heldVote.f k l0_0 a0_1 a1 = some r) :
    Calls Try.prog 52 #[.agg #[.slice A0_0 l0_0.length c0_0, .int .i64 a0_1], .int .i64 a1] w fun e w' => e = .returned (.int .i64 r) ∧ Below w.heap.size w w' := by
  have hu57 := Try.underlying57
  have HR0_0 := Aside0.mk hr0_0
  have HC0_0 := Aside0.mk hc0_0
  clear hr0_0 hc0_0
  have HB := Aside0.mk (Below.refl w.heap.size w)
  have H : ((laws_heldIntS.f k l0_0 a1).bind fun t230 => (if t230 < 0 then (some (-1)) else (some t230))) = some r := h
  clear h
  replace H := Option.bind_eq_some_iff.mp H
  obtain ⟨t230, A30, H⟩ := H
  replace H : (if t230 < 0 then (some (-1)) else (some t230)) = some r := H
  have A3 := Aside0.mk A30
  clear A30
  by_cases c4 : t230 < 0
  · rw [if_pos c4] at H
    have c4b0 : decide (t230 < 0) = true := decide_eq_true c4
    clear c4
    obtain rfl := Option.some.inj H
    go_enter Try.func52, Try.ntmps52
    go_wp2_with (first | ((with_reducible refine gate_dst (N := 2) rfl ?_); refine box_event ?hg (N := 2) ?hd (cs := #[.slice A0_0 l0_0.length c0_0, .int .i64 a0_1]) (t := 57) ?hr ?_; (case hd => rfl); (case hg => rfl); (case hr => first | (go_simp; done) | (go_simp; rfl)); intro gb229 hg w5 hbox hb; have n0_ := Aside0.mk (below_step (by repeat (first | (with_reducible first | exact HB.out | apply below_alloc | apply pw_below_drewN | apply below_drew1) | exact HB.out)) hb); have n1_ := Aside0.mk (hbox); have n2_ := Aside0.mk ((by rw [hg]; exact (below_size (by repeat (first | (with_reducible first | exact HB.out | apply below_alloc | apply pw_below_drewN | apply below_drew1) | exact HB.out))) : w.heap.size ≤ gb229)); have n3_ := Aside0.mk ((by rw [hg]; exact (below_size (by repeat (first | (with_reducible first | exact HB.out | apply below_alloc | apply pw_below_drewN | apply below_drew1) | exact HB.out))) : w.heap.size ≤ gb229)); clear HB; have HB := n0_; have BK229 := n1_; have GW229 := n2_; have GE229 := n3_; clear n0_ n1_ n2_ n3_; clear hb hbox hg; have hcz6_0 : w5.cell? ⟨gb229, 0, none⟩ = some (.slice A0_0 l0_0.length c0_0) := (blk_cell BK229.out 0).trans rfl; have hcz6_1 : w5.cell? ⟨gb229, 1, none⟩ = some (.int .i64 a0_1) := (blk_cell BK229.out 1).trans rfl; have hfz6_0 := blk_frozen BK229.out 0; have hfz6_1 := blk_frozen BK229.out 1) | ((with_reducible refine gate_callee (f := 44) rfl ?_); refine goesL_ (some 8) rfl rfl Try.func44 (by kernel_rfl) rfl #[.slice A0_0 l0_0.length c0_0, .int .i64 a1] rfl (by (try simp only [List.map_toArray, List.map_cons, List.map_nil]); first | done | rfl | (simp only [List.length_drop, List.length_take]; rfl)) ?_; (with_reducible refine (laws_heldIntS.calls k _ _ l0_0 a1 t230 _ ?side1 ?side2 A3.out).mono ?_); (case side1 => repeat (first | exact (Kd.C_below HR0_0.out HB.out) | (with_reducible refine Kd.C_alloc ?_ _) | (with_reducible refine Kd.C_drewN ?_ _) | (with_reducible refine Kd.C_drew ?_))); (case side2 => exact HC0_0.out); rintro e w' ⟨rfl, ⟨nd, rfl⟩⟩; refine ⟨_, rfl, ?_⟩))
    go_ret
    exact ⟨by first | rfl | (simp [errW_none, errW_some] <;> rfl) | (simp [*, errW_none, errW_some] <;> rfl), by repeat (first | (with_reducible first | exact HB.out | apply below_alloc | apply pw_below_drewN | apply below_drew1 | refine below_set ?_ GE229.out) | exact HB.out)⟩
  · rw [if_neg c4] at H
    have c4b0 : decide (t230 < 0) = false := decide_eq_false c4
    clear c4
    obtain rfl := Option.some.inj H
    go_enter Try.func52, Try.ntmps52
    go_wp2_with (first | ((with_reducible refine gate_dst (N := 2) rfl ?_); refine box_event ?hg (N := 2) ?hd (cs := #[.slice A0_0 l0_0.length c0_0, .int .i64 a0_1]) (t := 57) ?hr ?_; (case hd => rfl); (case hg => rfl); (case hr => first | (go_simp; done) | (go_simp; rfl)); intro gb229 hg w7 hbox hb; have n0_ := Aside0.mk (below_step (by repeat (first | (with_reducible first | exact HB.out | apply below_alloc | apply pw_below_drewN | apply below_drew1) | exact HB.out)) hb); have n1_ := Aside0.mk (hbox); have n2_ := Aside0.mk ((by rw [hg]; exact (below_size (by repeat (first | (with_reducible first | exact HB.out | apply below_alloc | apply pw_below_drewN | apply below_drew1) | exact HB.out))) : w.heap.size ≤ gb229)); have n3_ := Aside0.mk ((by rw [hg]; exact (below_size (by repeat (first | (with_reducible first | exact HB.out | apply below_alloc | apply pw_below_drewN | apply below_drew1) | exact HB.out))) : w.heap.size ≤ gb229)); clear HB; have HB := n0_; have BK229 := n1_; have GW229 := n2_; have GE229 := n3_; clear n0_ n1_ n2_ n3_; clear hb hbox hg; have hcz8_0 : w7.cell? ⟨gb229, 0, none⟩ = some (.slice A0_0 l0_0.length c0_0) := (blk_cell BK229.out 0).trans rfl; have hcz8_1 : w7.cell? ⟨gb229, 1, none⟩ = some (.int .i64 a0_1) := (blk_cell BK229.out 1).trans rfl; have hfz8_0 := blk_frozen BK229.out 0; have hfz8_1 := blk_frozen BK229.out 1) | ((with_reducible refine gate_callee (f := 44) rfl ?_); refine goesL_ (some 8) rfl rfl Try.func44 (by kernel_rfl) rfl #[.slice A0_0 l0_0.length c0_0, .int .i64 a1] rfl (by (try simp only [List.map_toArray, List.map_cons, List.map_nil]); first | done | rfl | (simp only [List.length_drop, List.length_take]; rfl)) ?_; (with_reducible refine (laws_heldIntS.calls k _ _ l0_0 a1 t230 _ ?side1 ?side2 A3.out).mono ?_); (case side1 => repeat (first | exact (Kd.C_below HR0_0.out HB.out) | (with_reducible refine Kd.C_alloc ?_ _) | (with_reducible refine Kd.C_drewN ?_ _) | (with_reducible refine Kd.C_drew ?_))); (case side2 => exact HC0_0.out); rintro e w' ⟨rfl, ⟨nd, rfl⟩⟩; refine ⟨_, rfl, ?_⟩))
    go_ret
    exact ⟨by first | rfl | (simp [errW_none, errW_some] <;> rfl) | (simp [*, errW_none, errW_some] <;> rfl), by repeat (first | (with_reducible first | exact HB.out | apply below_alloc | apply pw_below_drewN | apply below_drew1 | refine below_set ?_ GE229.out) | exact HB.out)⟩

end Go.Proofs.Ythfkgbkhkahmdaa.PFnExactVoteOf
