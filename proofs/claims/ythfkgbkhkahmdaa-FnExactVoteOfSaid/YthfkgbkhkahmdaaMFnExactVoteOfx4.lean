-- Laid for this claim by a program of the session's own (wip/tool/myprint.py).
import Derived.Test.YthfkgbkhkahmdaaMFnExactVoteOfx0
import Derived.Test.YthfkgbkhkahmdaaMFnExactVoteOfx1
import Derived.Test.YthfkgbkhkahmdaaMFnExactVoteOfx2
import Derived.Test.YthfkgbkhkahmdaaMFnExactVoteOfx3
namespace Go.Proofs.Ythfkgbkhkahmdaa.PFnExactVoteOf
open Go.RowKit Go.Proofs.YthfkgbkhkahmdaaW.PrintWords Go.Proofs.YthfkgbkhkahmdaaW.PrintLast Go.Proofs.YthfkgbkhkahmdaaW.PrintMore
attribute [local go_sem] max2_int min2_int max_two min_two max_three min_three max_four min_four   -- for this text's walks alone
set_option linter.unusedVariables false
set_option linter.unusedSimpArgs false

/-! ### spec_VoteOf: function 50 -/
def spec_VoteOf.quo (k : Nat) (t : List Int) (n : Int) (v : List Int) (q : Int) (c : Nat) : Option Int :=
  if t.getD c 0 = 0 then (spec_l2BitPoint.f k n (c : Int)).bind fun b => (spec_l2Dot.f k v b).bind fun d => spec_l1Most.f q (wrap64 (d + 1)) else some q
def spec_VoteOf.step (k : Nat) (t : List Int) (n : Int) (s : List Int × Int × Int) (v : List Int) : Option (List Int × Int × Int) :=
  ((List.range t.length).foldlM (spec_VoteOf.quo k t n v) 1).bind fun q => (spec_l6Vote.f k v q).bind fun b => if b = true then
    ((spec_l6Sum.f k v q).bind fun z => if s.2.2 < 0 ∨ z < s.2.2 then ((spec_l6Told.f k v q).bind fun y => (spec_l1Same.f k y t).bind fun e => if e = true then some (v, q, z) else some s) else some s) else some s
def spec_VoteOf.f (k : Nat) (a0 : Int) (l1 : List Int) : Option (List Int × Int × Bool) :=
  (spec_l6Valid.f k a0 l1).bind fun t => if t = true then ((spec_l4Weights.f k a0 a0 []).bind fun all => if all.length ≤ 1000000 ∧ l1.length ≤ 1000000 then ((all.foldlM (spec_VoteOf.step k l1 a0) ([], 0, -1)).bind fun s => some (s.1, s.2.1, decide (s.2.2 ≥ 0))) else none) else some ([], 0, false)
theorem spec_VoteOf.fold_take {σ α : Type} (f : σ → α → Option σ) (l : List α) (i : Nat) (x : α) (s : σ) (h : l[i]? = some x) : (l.take (i + 1)).foldlM f s = ((l.take i).foldlM f s).bind fun t => f t x := by
  have hi := (List.getElem?_eq_some_iff.1 h).1
  rw [List.take_succ_eq_append_getElem hi, List.foldlM_append, (List.getElem?_eq_some_iff.1 h).2]
  cases List.foldlM f s (List.take i l) <;> simp
theorem spec_VoteOf.fold_pre {σ α : Type} (f : σ → α → Option σ) (l : List α) (i : Nat) (s r : σ) (h : l.foldlM f s = some r) : ∃ t, (l.take i).foldlM f s = some t := by
  rw [← List.take_append_drop i l, List.foldlM_append] at h
  cases e : List.foldlM f s (List.take i l) with
  | none => rw [e] at h; cases h
  | some t => exact ⟨t, rfl⟩
theorem spec_VoteOf.fold_mono {σ α : Type} {f g : σ → α → Option σ} (h : ∀ s x, LeO (f s x) (g s x)) : ∀ (l : List α) (s : σ), LeO (l.foldlM f s) (l.foldlM g s) := by
  intro l
  induction l with
  | nil => intro s; exact LeO.refl _
  | cons x l ih => intro s; simp only [List.foldlM_cons]; exact LeO.bind (h s x) fun t => ih t
theorem spec_VoteOf.range_pre {σ : Type} (f : σ → Nat → Option σ) (n c : Nat) (s r : σ) (hc : c < n) (h : (List.range n).foldlM f s = some r) (q : σ) (hq : (List.range c).foldlM f s = some q) : ∃ q2, f q c = some q2 ∧ (List.range (c + 1)).foldlM f s = some q2 := by
  obtain ⟨q2, h2⟩ := spec_VoteOf.fold_pre f _ (c + 1) s r h
  rw [List.take_range, Nat.min_eq_left hc] at h2
  refine ⟨q2, ?_, h2⟩
  rw [List.range_succ, List.foldlM_append, hq] at h2
  simpa using h2
theorem spec_VoteOf.quo_mono (t : List Int) (n : Int) (v : List Int) (q : Int) (c k : Nat) : LeO (spec_VoteOf.quo k t n v q c) (spec_VoteOf.quo (k + 1) t n v q c) := by
  unfold spec_VoteOf.quo
  exact LeO.ite (LeO.bind (spec_l2BitPoint.mono _ _ k) fun b => LeO.bind (spec_l2Dot.mono _ _ k) fun d => LeO.refl _) (LeO.refl _)
theorem spec_VoteOf.step_mono (t : List Int) (n : Int) (s : List Int × Int × Int) (v : List Int) (k : Nat) : LeO (spec_VoteOf.step k t n s v) (spec_VoteOf.step (k + 1) t n s v) := by
  unfold spec_VoteOf.step
  refine LeO.bind (spec_VoteOf.fold_mono (fun q c => spec_VoteOf.quo_mono t n v q c k) _ _) fun q => LeO.bind (spec_l6Vote.mono _ _ k) fun b => LeO.ite ?_ (LeO.refl _)
  refine LeO.bind (spec_l6Sum.mono _ _ k) fun z => LeO.ite ?_ (LeO.refl _)
  exact LeO.bind (spec_l6Told.mono _ _ k) fun y => LeO.bind (spec_l1Same.mono _ _ k) fun e => LeO.refl _
theorem spec_VoteOf.mono : ∀ a0 a1 k, LeO (spec_VoteOf.f k a0 a1) (spec_VoteOf.f (k + 1) a0 a1) := by
  intro a0 a1 k
  unfold spec_VoteOf.f
  refine LeO.bind (spec_l6Valid.mono _ _ k) fun t => LeO.ite ?_ (LeO.refl _)
  refine LeO.bind (spec_l4Weights.mono _ _ _ k) fun all => LeO.ite ?_ (LeO.refl _)
  exact LeO.bind (spec_VoteOf.fold_mono (fun s v => spec_VoteOf.step_mono a1 a0 s v k) _ _) fun _ => LeO.refl _
set_option maxHeartbeats 16000000 in
set_option maxRecDepth 100000 in
theorem spec_VoteOf.calls (k : Nat) (a0 : Int) (A1 : Option Addr) (c1 : Nat) (l1 : List Int) (r1 : List Int) (r2 : Int) (r3 : Bool) (w : World) (hr1 : Kd.C (Kd.int .i64) w A1 l1.length l1) (hc1 : l1.length ≤ c1) (h : spec_VoteOf.f k a0 l1 = some (r1, r2, r3)) :
    Calls Try.prog 50 #[.int .i64 a0, .slice A1 l1.length c1] w fun e w' => ∃ v0_ : Value, e = .returned (.tuple #[.agg #[v0_, .int .i64 r2], .bool r3]) ∧ Kd.V (Kd.int .i64) 3 w' w.heap.size (fun k_ => (w.heap.size ≤ k_)) v0_ r1 ∧ Below w.heap.size w w' := by
  have HR1 := Aside0.mk hr1
  have HC1 := Aside0.mk hc1
  clear hr1 hc1
  unfold spec_VoteOf.f at h
  obtain ⟨t, ht, h⟩ := Option.bind_eq_some_iff.mp h
  have HT_ := Aside0.mk ht
  clear ht
  have BR := Aside0.mk (blk_new w (.cells #[.slice none 0 0, .int .i64 0] 57))
  have HB := Aside0.mk (below_alloc (Below.refl w.heap.size w) (.cells #[.slice none 0 0, .int .i64 0] 57))
  go_enter Try.func50, Try.ntmps50
  cases t with
  | false =>
    rw [if_neg (by decide)] at h
    cases h
    go_wp2_with (first | (go_at_call 103; (with_reducible refine (spec_l6Valid.calls k a0 _ _ l1 false _ ?s1 ?s2 HT_.out).mono ?_); (case s1 => exact Kd.C_below HR1.out HB.out); (case s2 => exact HC1.out); rintro e w' ⟨rfl, ⟨nd1, rfl⟩⟩; have n2_ := Aside0.mk (blk_drewN BR.out nd1); have n3_ := Aside0.mk (pw_below_drewN HB.out nd1); clear BR HB; have BR := n2_; have HB := n3_; clear n2_ n3_; generalize World.drewN _ nd1 = w4 at BR HB ⊢; have hr0 := (blk_cell BR.out 0).trans (show _ = some (Value.slice none 0 0) from rfl); have hr1 := (blk_cell BR.out 1).trans (show _ = some (Value.int .i64 0) from rfl); have hf0 := blk_frozen BR.out 0; have hf1 := blk_frozen BR.out 1))
    refine bodyPost_ret (results_ct rfl _ _ w.heap.size 57 #[.slice none 0 0, .int .i64 0] (0, 0) _ rfl (blk_put (blk_put BR.out 0 (.slice none 0 0) rfl) 1 (.int .i64 0) rfl) Try.underlying57 rfl (by kernel_rfl)) rfl ?_
    exact ⟨_, rfl, Kd.V_nil _ _ _ _ _, below_set (below_set HB.out (Nat.le_refl _)) (Nat.le_refl _)⟩
  | true =>
    rw [if_pos rfl] at h
    obtain ⟨all, hall, h⟩ := Option.bind_eq_some_iff.mp h
    by_cases cm : all.length ≤ 1000000 ∧ l1.length ≤ 1000000
    · rw [if_pos cm] at h
      obtain ⟨⟨fl, fq, fz⟩, hfin, h⟩ := Option.bind_eq_some_iff.mp h
      have HFIN := Aside0.mk hfin
      have H := Aside0.mk h
      have HALL := Aside0.mk hall
      have HM := Aside0.mk cm
      clear hfin h hall cm
      go_wp2_with (first | (go_at_call 103; (with_reducible refine (spec_l6Valid.calls k a0 _ _ l1 true _ ?s1 ?s2 HT_.out).mono ?_); (case s1 => exact Kd.C_below HR1.out HB.out); (case s2 => exact HC1.out); rintro e w' ⟨rfl, ⟨nd1, rfl⟩⟩; have n2_ := Aside0.mk (blk_drewN BR.out nd1); have n3_ := Aside0.mk (pw_below_drewN HB.out nd1); clear BR HB; have BR := n2_; have HB := n3_; clear n2_ n3_; generalize World.drewN _ nd1 = w4 at BR HB ⊢; have hr0 := (blk_cell BR.out 0).trans (show _ = some (Value.slice none 0 0) from rfl); have hr1 := (blk_cell BR.out 1).trans (show _ = some (Value.int .i64 0) from rfl); have hf0 := blk_frozen BR.out 0; have hf1 := blk_frozen BR.out 1; have BGX := Aside0.mk (blk_alloc (blk_new w4 (.cells #[.slice none 0 0, .int .i64 0] 57)) (.cells #[] 3)); have BRX := Aside0.mk (blk_alloc (blk_alloc BR.out (.cells #[.slice none 0 0, .int .i64 0] 57)) (.cells #[] 3)); have HBX := Aside0.mk (below_alloc (below_alloc HB.out (.cells #[.slice none 0 0, .int .i64 0] 57)) (.cells #[] 3)); have q1 := blk_lt BR.out; have q2 : ((w4.alloc (.cells #[.slice none 0 0, .int .i64 0] 57)).alloc (.cells #[] 3)).heap.size = w4.heap.size + 1 + 1 := (by simp); have HW4 := Aside0.mk (show Calls Try.prog 104 #[.int .i64 a0, .int .i64 a0, .slice (some ⟨w4.heap.size + 1, 0, none⟩) 0 0] ((w4.alloc (.cells #[.slice none 0 0, .int .i64 0] 57)).alloc (.cells #[] 3)) _ from spec_l4Weights.calls k a0 a0 (fun _ => False) (some ⟨w4.heap.size + 1, 0, none⟩) 0 [] all ((w4.alloc (.cells #[.slice none 0 0, .int .i64 0] 57)).alloc (.cells #[] 3)) ⟨some ⟨w4.heap.size + 1, 0, none⟩, 0, rfl, Nat.le_refl _, fun W' _ => ⟨rfl, Nat.zero_le _, fun hp => absurd hp (Nat.lt_irrefl 0)⟩⟩ HALL.out)) | (go_at_call 104; (with_reducible refine HW4.out.mono ?_); rintro e w5 ⟨va, rfl, hN, hb⟩; obtain ⟨Aa, ca, rfl⟩ := Kd.V_slice (Kd.N_V (base' := 0) hN); have BG := Aside0.mk ((hb.block _ (blk_lt BGX.out)).trans BGX.out); have n1_ := Aside0.mk ((hb.block _ (blk_lt BRX.out)).trans BRX.out); have HV := Aside0.mk (Kd.V_mono (ok' := fun k_ => w4.heap.size + 1 + 1 ≤ k_ ∧ k_ < w5.heap.size) (Kd.V_bound (Kd.N_V (base' := 0) hN)) (fun k_ hk => ⟨by rcases hk.1 with h | h; exact (show False from h).elim; rw [q2] at h; exact h, hk.2⟩)); have n2_ := Aside0.mk (below_step HBX.out hb); have q3 := hb.size; clear BR HB BGX BRX HBX HW4 hN hb hr0 hr1 hf0 hf1; have BR := n1_; have HB := n2_; clear n1_ n2_))
      have hHW : Kd.V (Kd.int .i64) 3 w5 0 (fun k_ => w4.heap.size + 1 + 1 ≤ k_ ∧ k_ < w5.heap.size) (.slice none 0 0) ([] : List Int) := Kd.V_nil _ _ _ _ _
      have HW := Aside0.mk hHW
      clear hHW
      rw [q2] at q3
      obtain ⟨sC, hsC⟩ : ∃ x, x = w4.heap.size + 1 + 1 := ⟨_, rfl⟩
      obtain ⟨sA, hsA⟩ : ∃ x, x = w5.heap.size := ⟨_, rfl⟩
      obtain ⟨gb, hgb⟩ : ∃ x, x = w4.heap.size := ⟨_, rfl⟩
      rw [← hsC, ← hsA] at HV HW
      rw [← hgb] at BG q1 hsC ⊢
      have HQ := Aside0.mk (show w.heap.size < gb ∧ gb < sC ∧ sC ≤ sA from ⟨q1, by omega, by omega⟩)
      have HSZ := Aside0.mk (show sA ≤ w5.heap.size from by omega)
      clear q1 q2 q3 hsC hsA hgb
      go_loopw [7, 9] (fun v7 v9 w' => ∃ (i : Nat) (s : List Int × Int × Int) (vw : Value), v9 = .int .i64 (i : Int) ∧ v7 = .int .i64 s.2.2 ∧ Aside0 (i ≤ all.length) ∧ Aside0 ((all.take i).foldlM (spec_VoteOf.step k l1 a0) ([], 0, -1) = some s) ∧ Aside0 (w'.heap[gb]? = some (.cells #[vw, .int .i64 s.2.1] 57 (0, 0))) ∧ Aside0 (w'.heap[w.heap.size]? = some (.cells #[.slice none 0 0, .int .i64 0] 57 (0, 0))) ∧ Aside0 (Kd.V (Kd.slice 3 (Kd.int .i64)) 24 w' 0 (fun k_ => sC ≤ k_ ∧ k_ < sA) (.slice Aa all.length ca) all) ∧ Aside0 (Kd.V (Kd.int .i64) 3 w' 0 (fun k_ => sC ≤ k_ ∧ k_ < sA) vw s.1) ∧ Aside0 (Below w.heap.size w w') ∧ Aside0 (sA ≤ w'.heap.size)) (fun _ v9 _ => all.length - (intOf v9).toNat)
      case atStart => exact ⟨0, ([], 0, -1), _, rfl, rfl, ⟨Nat.zero_le _⟩, ⟨rfl⟩, BG, BR, HV, HW, HB, HSZ⟩
      case round =>
        clear BG BR HV HW HB HSZ
        obtain ⟨i, ⟨sl, sq, sz⟩, vw, rfl, rfl, HI, HS, BG, BR, HV, HW, HB, HSZ⟩ := hrel
        simp only at BG HW
        dsimp only
        by_cases ci : i < all.length
        · have d1 : decide ((i : Int) < (all.length : Int)) = true := decide_eq_true (by omega)
          have d2 : decide (i < all.length) = true := decide_eq_true ci
          have HIL := Aside0.mk ci
          obtain ⟨ad, cs, e1, hcl, hFK, hcc, hokad⟩ := Kd.F_get (Kd.V_F HV.out) ([] : List Int) (i : Int) (by omega) (by omega)
          cases e1
          obtain ⟨Ai, ci_, rfl, hli, hFi⟩ := Kd.FK_slice_open hFK
          have hrow0 := hcc 0 _ rfl
          rw [show ((Kd.slice 3 (Kd.int .i64))).sz = 1 from rfl, Nat.mul_one, Nat.add_zero, Int.toNat_natCast] at hrow0
          simp only [Int.toNat_natCast] at hli hFi
          have hlt := List.getElem?_eq_getElem ci
          obtain ⟨v, hv⟩ : ∃ v, all.getD i [] = v := ⟨_, rfl⟩
          rw [hv] at hli hFi hrow0
          have hvi : all[i]? = some v := by rw [← hv, List.getD_eq_getElem?_getD, hlt]; rfl
          have HVI := Aside0.mk (show Kd.V (Kd.int .i64) 3 wr 0 (fun k_ => sC ≤ k_ ∧ k_ < sA) (.slice Ai v.length ci_) v from Kd.V_mk hli hFi)
          have hADB := Aside0.mk (hokad (by decide))
          have HROW := Aside0.mk hrow0
          obtain ⟨s2, hs2⟩ := spec_VoteOf.fold_pre _ all (i + 1) _ _ HFIN.out
          have hs3 := hs2
          rw [spec_VoteOf.fold_take _ all i v _ hvi, HS.out, Option.bind_some] at hs3
          have HNXT := Aside0.mk hs2
          unfold spec_VoteOf.step at hs3
          obtain ⟨qf, hqf, hs3⟩ := Option.bind_eq_some_iff.mp hs3
          have HQF := Aside0.mk hqf
          have HSTEP := Aside0.mk hs3
          have h0i : (0 : Int) ≤ (i : Int) := by omega
          have hib : (i : Int) ≤ 1000000 := by have := HM.out.1; omega
          clear hcl hFK hcc hokad hlt hv hs2 hs3 hqf hvi hli hFi
          go_wp2
          have BV := Aside0.mk (blk_new wr (.cells #[.slice Ai v.length ci_, .int .i64 1] 57))
          have HGV := Aside0.mk (show sA ≤ wr.heap.size from HSZ.out)
          have HRB := Aside0.mk (blk_lt BG.out)
          have HRR := Aside0.mk (blk_lt BR.out)
          have n0_ := Aside0.mk (blk_alloc BG.out (.cells #[.slice Ai v.length ci_, .int .i64 1] 57))
          have n1_ := Aside0.mk (blk_alloc BR.out (.cells #[.slice Ai v.length ci_, .int .i64 1] 57))
          have n2_ := Aside0.mk (Kd.V_alloc HV.out (.cells #[.slice Ai v.length ci_, .int .i64 1] 57))
          have n3_ := Aside0.mk (Kd.V_alloc HW.out (.cells #[.slice Ai v.length ci_, .int .i64 1] 57))
          have n4_ := Aside0.mk (Kd.V_alloc HVI.out (.cells #[.slice Ai v.length ci_, .int .i64 1] 57))
          have n5_ := Aside0.mk (below_alloc HB.out (.cells #[.slice Ai v.length ci_, .int .i64 1] 57))
          clear BG BR HV HW HVI HB
          have BG := n0_
          have BR := n1_
          have HV := n2_
          have HW := n3_
          have HVI := n4_
          have HB := n5_
          clear n0_ n1_ n2_ n3_ n4_ n5_
          have n0_ := Aside0.mk (show sA ≤ (wr.alloc (.cells #[.slice Ai v.length ci_, .int .i64 1] 57)).heap.size from Nat.le_trans HSZ.out (by simp))
          clear HSZ hrow0
          have HSZ := n0_
          clear n0_
          have hgv1 : ¬ gb = wr.heap.size := by have := HRB.out; omega
          have hgv2 : ¬ wr.heap.size = gb := fun e => hgv1 e.symm
          have hgv3 : w.heap.size ≠ wr.heap.size := by have := HRR.out; omega
          have hrn : (ad.add i).block < wr.heap.size := World.block_lt_of_cell? wr _ HROW.out
          have HROW2 := Aside0.mk ((show (wr.alloc (.cells #[.slice Ai v.length ci_, .int .i64 1] 57)).cell? (ad.add i) = wr.cell? (ad.add i) from (below_alloc (Below.refl wr.heap.size wr) (.cells #[.slice Ai v.length ci_, .int .i64 1] 57)).cell hrn).trans HROW.out)
          generalize hgvE : wr.heap.size = gv at BV HGV HRB HRR hgv1 hgv2 hgv3 hrn ⊢
          clear HROW
          have HROW := HROW2
          clear HROW2
          generalize wr.alloc (.cells #[.slice Ai v.length ci_, .int .i64 1] 57) = wn at BV BG BR HV HW HVI HB HSZ HROW ⊢
          go_loopw [11] (fun v11 w' => ∃ (c : Nat) (q : Int), v11 = .int .i64 (c : Int) ∧ Aside0 (c ≤ l1.length) ∧ Aside0 ((List.range c).foldlM (spec_VoteOf.quo k l1 a0 v) 1 = some q) ∧ Aside0 (w'.heap[gv]? = some (.cells #[.slice Ai v.length ci_, .int .i64 q] 57 (0, 0))) ∧ Aside0 (w'.heap[gb]? = some (.cells #[vw, .int .i64 sq] 57 (0, 0))) ∧ Aside0 (w'.heap[w.heap.size]? = some (.cells #[.slice none 0 0, .int .i64 0] 57 (0, 0))) ∧ Aside0 (Kd.V (Kd.slice 3 (Kd.int .i64)) 24 w' 0 (fun k_ => sC ≤ k_ ∧ k_ < sA) (.slice (some ad) all.length ca) all) ∧ Aside0 (Kd.V (Kd.int .i64) 3 w' 0 (fun k_ => sC ≤ k_ ∧ k_ < sA) vw sl) ∧ Aside0 (Kd.V (Kd.int .i64) 3 w' 0 (fun k_ => sC ≤ k_ ∧ k_ < sA) (.slice Ai v.length ci_) v) ∧ Aside0 (Below w.heap.size w w') ∧ Aside0 (sA ≤ w'.heap.size) ∧ Aside0 (w'.cell? (ad.add i) = some (.slice Ai v.length ci_))) (fun v11 _ => l1.length - (intOf v11).toNat)
          case atStart => exact ⟨0, 1, rfl, ⟨Nat.zero_le _⟩, ⟨rfl⟩, BV, BG, BR, HV, HW, HVI, HB, HSZ, HROW⟩
          case round =>
            clear BV BG BR HV HW HVI HB HSZ HROW
            obtain ⟨c, q, rfl, HJ, HQ2, BV, BG, BR, HV, HW, HVI, HB, HSZ, HROW⟩ := hrel
            by_cases cc : c < l1.length
            · have d3 : decide ((c : Int) < (l1.length : Int)) = true := decide_eq_true (by omega)
              have d4 : decide (c < l1.length) = true := decide_eq_true cc
              have HJL := Aside0.mk cc
              obtain ⟨q2, hq2, hq3⟩ := spec_VoteOf.range_pre _ l1.length c _ _ cc HQF.out q HQ2.out
              have HQ3 := Aside0.mk hq3
              unfold spec_VoteOf.quo at hq2
              obtain ⟨ad3, e3, hct⟩ := Kd.at_int (Kd.C_below HR1.out HB.out) (c : Int) (by omega) (by omega)
              cases e3
              rw [Int.toNat_natCast, show rd l1 (c : Int) = l1.getD c 0 by simp [rd]] at hct
              have h0c : (0 : Int) ≤ (c : Int) := by omega
              have hcb : (c : Int) ≤ 1000000 := by have := HM.out.2; omega
              obtain ⟨x, hx⟩ : ∃ x, l1.getD c 0 = x := ⟨_, rfl⟩
              rw [hx] at hct hq2
              clear hx hq3
              by_cases cx : x = 0
              · rw [if_pos cx] at hq2
                obtain ⟨bp, hbp, hq2⟩ := Option.bind_eq_some_iff.mp hq2
                obtain ⟨dt, hdt, hq2⟩ := Option.bind_eq_some_iff.mp hq2
                have HBP := Aside0.mk hbp
                have HDT := Aside0.mk hdt
                have HMO := Aside0.mk hq2
                have d5 : (x == (0 : Int)) = true := beq_iff_eq.mpr cx
                clear hbp hdt hq2
                subst cx
                go_wp2
                have n0_ := Aside0.mk (blk_drew BV.out)
                have n1_ := Aside0.mk (blk_drew BG.out)
                have n2_ := Aside0.mk (blk_drew BR.out)
                have n3_ := Aside0.mk (Kd.V_drew HV.out)
                have n4_ := Aside0.mk (Kd.V_drew HW.out)
                have n5_ := Aside0.mk (Kd.V_drew HVI.out)
                have n6_ := Aside0.mk (below_drew1 HB.out)
                have n7_ := Aside0.mk (show sA ≤ (wr.drew).heap.size from HSZ.out)
                have n9_ := Aside0.mk (show (wr.drew).cell? (ad.add i) = some (Value.slice Ai v.length ci_) from HROW.out)
                clear BV BG BR HV HW HVI HB HSZ HROW
                have BV := n0_
                have BG := n1_
                have BR := n2_
                have HV := n3_
                have HW := n4_
                have HVI := n5_
                have HB := n6_
                have HSZ := n7_
                have HROW := n9_
                clear n0_ n1_ n2_ n3_ n4_ n5_ n6_ n7_ n9_
                refine start_ (n := 14) (S := fun w' => w'.cell? ⟨gv, 1, none⟩ = some (.int .i64 q) ∧ w'.cell? (ad.add i) = some (.slice Ai v.length ci_)) (ds := [13]) #[false, false, false, false, false, false, false, false, false, false, false, false, false, false] (by kernel_rfl) rfl rfl ⟨(blk_cell BV.out 1).trans rfl, HROW.out⟩ (fun hHeld => ?_)
                generalize World.drew _ = w7 at BV BG BR HV HW HVI HB HSZ HROW hHeld ⊢
                refine pure_ (i := 0) (N := some 44) (v := ?_) (a' := ?_) #[true, false, false, false, false, false, false, false, false, false, false, false, false, false] rfl rfl (by kernel_rfl) (fun _ _ _ h => h) (Or.inl ⟨by rfl, ?_⟩) ?_ ?_
                rotate_left
                · intro w'
                  go_simp
                  with_reducible rfl
                rotate_left
                · simp only [Act.put, List.setIfInBounds_toArray, List.set_cons_zero, List.set_cons_succ, i64_w, i32_w]
                  rfl
                refine pure_ (i := 2) (N := some 46) (v := ?_) (a' := ?_) #[true, false, true, false, false, false, false, false, false, false, false, false, false, false] rfl rfl (by kernel_rfl) (fun _ _ _ h => h) (Or.inl ⟨by rfl, ?_⟩) ?_ ?_
                rotate_left
                · intro w'
                  go_simp
                  with_reducible rfl
                rotate_left
                · simp only [Act.put, List.setIfInBounds_toArray, List.set_cons_zero, List.set_cons_succ, i64_w, i32_w]
                  rfl
                refine pure_ (i := 3) (N := some 47) (v := ?_) (a' := ?_) #[true, false, true, true, false, false, false, false, false, false, false, false, false, false] rfl rfl (by kernel_rfl) (fun _ _ _ h => h) (Or.inl ⟨by rfl, ?_⟩) ?_ ?_
                rotate_left
                · intro w'
                  go_simp
                  with_reducible rfl
                rotate_left
                · simp only [Act.put, List.setIfInBounds_toArray, List.set_cons_zero, List.set_cons_succ, i64_w, i32_w]
                  rfl
                refine pure_ (i := 4) (N := some 48) (v := ?_) (a' := ?_) #[true, false, true, true, true, false, false, false, false, false, false, false, false, false] rfl rfl (by kernel_rfl) (fun _ _ _ h => h) (Or.inl ⟨by rfl, ?_⟩) ?_ ?_
                rotate_left
                · intro w'
                  go_simp
                  with_reducible rfl
                rotate_left
                · simp only [Act.put, List.setIfInBounds_toArray, List.set_cons_zero, List.set_cons_succ, i64_w, i32_w]
                  rfl
                refine pure_ (i := 6) (N := some 50) (v := ?_) (a' := ?_) #[true, false, true, true, true, false, true, false, false, false, false, false, false, false] rfl rfl (by kernel_rfl) (fun _ _ _ h => h) (Or.inl ⟨by rfl, ?_⟩) ?_ ?_
                rotate_left
                · intro w'
                  go_simp
                  with_reducible rfl
                rotate_left
                · simp only [Act.put, List.setIfInBounds_toArray, List.set_cons_zero, List.set_cons_succ, i64_w, i32_w]
                  rfl
                refine pure_ (i := 7) (N := some 51) (v := ?_) (a' := ?_) #[true, false, true, true, true, false, true, true, false, false, false, false, false, false] rfl rfl (by kernel_rfl) (fun _ _ _ h => h) (Or.inl ⟨by rfl, ?_⟩) ?_ ?_
                rotate_left
                · intro w'
                  go_simp
                  with_reducible rfl
                rotate_left
                · simp only [Act.put, List.setIfInBounds_toArray, List.set_cons_zero, List.set_cons_succ, i64_w, i32_w]
                  rfl
                refine take_ (i := 1) (N := some 45) (v := ?_) (a' := ?_) #[true, true, true, true, true, false, true, true, false, false, false, false, false, false] rfl rfl (by kernel_rfl) (fun _ _ _ h => h) (Or.inl ⟨by rfl, ?_⟩) hHeld ?_ ?_
                rotate_left
                · rintro w' ⟨s0, s1⟩
                  go_simp
                  with_reducible rfl
                rotate_left
                · simp only [Act.put, List.setIfInBounds_toArray, List.set_cons_zero, List.set_cons_succ, i64_w, i32_w]
                  rfl
                refine take_ (i := 5) (N := some 49) (v := ?_) (a' := ?_) #[true, true, true, true, true, true, true, true, false, false, false, false, false, false] rfl rfl (by kernel_rfl) (fun _ _ _ h => h) (Or.inl ⟨by rfl, ?_⟩) hHeld ?_ ?_
                rotate_left
                · rintro w' ⟨s0, s1⟩
                  go_simp
                  with_reducible rfl
                rotate_left
                · simp only [Act.put, List.setIfInBounds_toArray, List.set_cons_zero, List.set_cons_succ, i64_w, i32_w]
                  rfl
                refine one_ (i := 8) (N := some 52) #[true, true, true, true, true, true, true, true, true, false, false, false, false, false] rfl rfl (by kernel_rfl) (by decide) (fun K hK => ?_)
                refine goes_ Try.func106 (by kernel_rfl) rfl #[.int .i64 a0, .int .i64 (c : Int)] (by rfl) rfl rfl (by simp only [List.map_toArray, List.map_cons, List.map_nil]; rfl) ?_
                with_reducible refine (spec_l2BitPoint.calls k _ _ bp _ HBP.out).mono ?_
                rintro e w8 ⟨vp, rfl, hpr, hb⟩
                refine ⟨_, rfl, ?_⟩
                obtain ⟨Ap, cp, rfl, hlp, hcp⟩ := Kd.R_reads hpr
                have n0_ := Aside0.mk ((hb.block _ (blk_lt BV.out)).trans BV.out)
                have n1_ := Aside0.mk ((hb.block _ (blk_lt BG.out)).trans BG.out)
                have n2_ := Aside0.mk ((hb.block _ (blk_lt BR.out)).trans BR.out)
                have n3_ := Aside0.mk (Kd.V_below HV.out hb)
                have n4_ := Aside0.mk (Kd.V_below HW.out hb)
                have n5_ := Aside0.mk (Kd.V_below HVI.out hb)
                have n6_ := Aside0.mk (below_step HB.out hb)
                have n7_ := Aside0.mk (Nat.le_trans HSZ.out hb.size)
                have n9_ := Aside0.mk ((hb.cell (World.block_lt_of_cell? _ _ HROW.out)).trans HROW.out)
                clear BV BG BR HV HW HVI HB HSZ HROW
                have BV := n0_
                have BG := n1_
                have BR := n2_
                have HV := n3_
                have HW := n4_
                have HVI := n5_
                have HB := n6_
                have HSZ := n7_
                have HROW := n9_
                clear n0_ n1_ n2_ n3_ n4_ n5_ n6_ n7_ n9_
                have HCP := Aside0.mk hcp
                have HLP := Aside0.mk hlp
                clear hb hpr hcp hlp
                refine hK.out _ _ ⟨(blk_cell BV.out 1).trans rfl, HROW.out⟩ (fun hHeld => ?_)
                clear hK K
                refine norm_ (a' := ?_) ?_ ?_
                rotate_left
                · show Act.put _ (some 52) _ = _
                  simp only [Act.put, List.setIfInBounds_toArray, List.set_cons_zero, List.set_cons_succ, i64_w, i32_w]
                  rfl
                refine one_ (i := 9) (N := some 53) #[true, true, true, true, true, true, true, true, true, true, false, false, false, false] rfl rfl (by kernel_rfl) (by decide) (fun K hK => ?_)
                refine goes_ Try.func105 (by kernel_rfl) rfl #[.slice Ai v.length ci_, .slice Ap bp.length cp] (by rfl) rfl rfl (by simp only [List.map_toArray, List.map_cons, List.map_nil]; rfl) ?_
                with_reducible refine (spec_l2Dot.calls k _ _ v _ _ bp dt _ (Kd.V_reads' HVI.out).2.2 (Kd.V_reads' HVI.out).2.1 HCP.out HLP.out HDT.out).mono ?_
                rintro e w9 ⟨rfl, ⟨nd, rfl⟩⟩
                refine ⟨_, rfl, ?_⟩
                have n0_ := Aside0.mk (blk_drewN BV.out nd)
                have n1_ := Aside0.mk (blk_drewN BG.out nd)
                have n2_ := Aside0.mk (blk_drewN BR.out nd)
                have n3_ := Aside0.mk (Kd.V_drewN HV.out nd)
                have n4_ := Aside0.mk (Kd.V_drewN HW.out nd)
                have n5_ := Aside0.mk (Kd.V_drewN HVI.out nd)
                have n6_ := Aside0.mk (pw_below_drewN HB.out nd)
                have n7_ := Aside0.mk (show sA ≤ (w8.drewN nd).heap.size from HSZ.out)
                have n9_ := Aside0.mk (show (w8.drewN nd).cell? (ad.add i) = some (Value.slice Ai v.length ci_) from HROW.out)
                clear BV BG BR HV HW HVI HB HSZ HROW
                have BV := n0_
                have BG := n1_
                have BR := n2_
                have HV := n3_
                have HW := n4_
                have HVI := n5_
                have HB := n6_
                have HSZ := n7_
                have HROW := n9_
                clear n0_ n1_ n2_ n3_ n4_ n5_ n6_ n7_ n9_
                clear HCP
                refine hK.out _ _ ⟨(blk_cell BV.out 1).trans rfl, HROW.out⟩ (fun hHeld => ?_)
                clear hK K
                refine norm_ (a' := ?_) ?_ ?_
                rotate_left
                · show Act.put _ (some 53) _ = _
                  simp only [Act.put, List.setIfInBounds_toArray, List.set_cons_zero, List.set_cons_succ, i64_w, i32_w]
                  rfl
                refine pure_ (i := 10) (N := some 54) (v := ?_) (a' := ?_) #[true, true, true, true, true, true, true, true, true, true, true, false, false, false] rfl rfl (by kernel_rfl) (fun _ _ _ h => h) (Or.inl ⟨by rfl, ?_⟩) ?_ ?_
                rotate_left
                · intro w'
                  go_simp
                  with_reducible rfl
                rotate_left
                · simp only [Act.put, List.setIfInBounds_toArray, List.set_cons_zero, List.set_cons_succ, i64_w, i32_w]
                  rfl
                refine one_ (i := 11) (N := some 55) #[true, true, true, true, true, true, true, true, true, true, true, true, false, false] rfl rfl (by kernel_rfl) (by decide) (fun K hK => ?_)
                refine goes_ Try.func82 (by kernel_rfl) rfl #[.int .i64 q, .int .i64 (wrap64 (dt + 1))] (by rfl) rfl rfl (by simp only [List.map_toArray, List.map_cons, List.map_nil]; rfl) ?_
                with_reducible refine (spec_l1Most.calls _ _ q2 _ HMO.out).mono ?_
                rintro e w10 ⟨rfl, ⟨nd3, rfl⟩⟩
                refine ⟨_, rfl, ?_⟩
                have n0_ := Aside0.mk (blk_drewN BV.out nd3)
                have n1_ := Aside0.mk (blk_drewN BG.out nd3)
                have n2_ := Aside0.mk (blk_drewN BR.out nd3)
                have n3_ := Aside0.mk (Kd.V_drewN HV.out nd3)
                have n4_ := Aside0.mk (Kd.V_drewN HW.out nd3)
                have n5_ := Aside0.mk (Kd.V_drewN HVI.out nd3)
                have n6_ := Aside0.mk (pw_below_drewN HB.out nd3)
                have n7_ := Aside0.mk (show sA ≤ ((w8.drewN nd).drewN nd3).heap.size from HSZ.out)
                have n9_ := Aside0.mk (show ((w8.drewN nd).drewN nd3).cell? (ad.add i) = some (Value.slice Ai v.length ci_) from HROW.out)
                clear BV BG BR HV HW HVI HB HSZ HROW
                have BV := n0_
                have BG := n1_
                have BR := n2_
                have HV := n3_
                have HW := n4_
                have HVI := n5_
                have HB := n6_
                have HSZ := n7_
                have HROW := n9_
                clear n0_ n1_ n2_ n3_ n4_ n5_ n6_ n7_ n9_
                refine hK.out _ _ ⟨(blk_cell BV.out 1).trans rfl, HROW.out⟩ (fun hHeld => ?_)
                clear hK K
                refine norm_ (a' := ?_) ?_ ?_
                rotate_left
                · show Act.put _ (some 55) _ = _
                  simp only [Act.put, List.setIfInBounds_toArray, List.set_cons_zero, List.set_cons_succ, i64_w, i32_w]
                  rfl
                refine pure_ (i := 12) (N := some 56) (v := ?_) (a' := ?_) #[true, true, true, true, true, true, true, true, true, true, true, true, true, false] rfl rfl (by kernel_rfl) (fun _ _ _ h => h) (Or.inl ⟨by rfl, ?_⟩) ?_ ?_
                rotate_left
                · intro w'
                  go_simp
                  with_reducible rfl
                rotate_left
                · simp only [Act.put, List.setIfInBounds_toArray, List.set_cons_zero, List.set_cons_succ, i64_w, i32_w]
                  rfl
                refine last_ (i := 13) (N := none) #[true, true, true, true, true, true, true, true, true, true, true, true, true, true] rfl rfl (by kernel_rfl) (by decide) (fun K hK => ?_)
                have hvc0 : w8.cell? ⟨gv, 1, none⟩ = some (Value.int .i64 q) := (blk_cell BV.out 1).trans rfl
                have hvf0 : w8.frozen? ⟨gv, 1, none⟩ = false := blk_frozen BV.out 1
                refine skip_ (w1 := ?_) (by rfl) rfl ?_ ?_
                rotate_left
                · go_simp
                  rfl
                refine hK.out _ _ ?_
                clear hK K
                refine done_ (by kernel_rfl) ?_
                have hdr : (w8.drewN nd).drewN nd3 = w8.drewN (nd + nd3) := by go_simp
                rw [hdr] at BV BG BR HV HW HVI HB HSZ HROW
                clear hHeld hdr hvc0 hvf0
                generalize w8.drewN (nd + nd3) = wz at BV BG BR HV HW HVI HB HSZ HROW ⊢
                have n0_ := Aside0.mk (blk_put BV.out 1 (.int .i64 q2) rfl)
                have n1_ := Aside0.mk (blk_far BG.out hgv1 (p := ⟨gv, 1, none⟩) (.int .i64 q2))
                have n2_ := Aside0.mk (blk_far BR.out hgv3 (p := ⟨gv, 1, none⟩) (.int .i64 q2))
                have n3_ := Aside0.mk (Kd.V_far HV.out (p := ⟨gv, 1, none⟩) (fun k_ hk => by have h1 := hk.2; have h2 := HGV.out; show k_ ≠ gv; omega) (.int .i64 q2))
                have n4_ := Aside0.mk (Kd.V_far HW.out (p := ⟨gv, 1, none⟩) (fun k_ hk => by have h1 := hk.2; have h2 := HGV.out; show k_ ≠ gv; omega) (.int .i64 q2))
                have n5_ := Aside0.mk (Kd.V_far HVI.out (p := ⟨gv, 1, none⟩) (fun k_ hk => by have h1 := hk.2; have h2 := HGV.out; show k_ ≠ gv; omega) (.int .i64 q2))
                have n6_ := Aside0.mk (below_set (j := 1) (v := .int .i64 q2) HB.out (show w.heap.size ≤ gv from Nat.le_of_lt HRR.out))
                have n7_ := Aside0.mk (show sA ≤ (World.setCell wz ⟨gv, 1, none⟩ (.int .i64 q2)).heap.size from Nat.le_trans HSZ.out (by simp [World.setCell]))
                have n8_ := Aside0.mk ((show (World.setCell wz ⟨gv, 1, none⟩ (.int .i64 q2)).cell? (ad.add i) = World.cell? wz (ad.add i) from World.cell?_setCell_other (h := show (⟨gv, 1, none⟩ : Addr) ≠ ad.add i from fun e => by have h1 : gv = (ad.add i).block := congrArg Addr.block e; omega) ..).trans HROW.out)
                clear BV BG BR HV HW HVI HB HSZ HROW
                have BV := n0_
                have BG := n1_
                have BR := n2_
                have HV := n3_
                have HW := n4_
                have HVI := n5_
                have HB := n6_
                have HSZ := n7_
                have HROW := n8_
                clear n0_ n1_ n2_ n3_ n4_ n5_ n6_ n7_ n8_
                generalize wz.setCell ⟨gv, 1, none⟩ (.int .i64 q2) = wy at BV BG BR HV HW HVI HB HSZ HROW ⊢
                go_wp2
                go_roundw
                case rel => exact ⟨c + 1, q2, by go_num, ⟨HJL.out⟩, HQ3, BV, BG, BR, HV, HW, HVI, HB, HSZ, HROW⟩
                case measure => have := HJL.out; simp [intOf]; omega
              · rw [if_neg cx] at hq2
                cases hq2
                have d5 : (x == (0 : Int)) = false := beq_eq_false_iff_ne.mpr cx
                clear cx
                go_wp2
                go_roundw
                case rel => exact ⟨c + 1, q, by go_num, ⟨HJL.out⟩, HQ3, BV, BG, BR, HV, HW, HVI, HB, HSZ, HROW⟩
                case measure => have := HJL.out; simp [intOf]; omega
            · have d3 : decide ((c : Int) < (l1.length : Int)) = false := decide_eq_false (by omega)
              have d4 : decide (c < l1.length) = false := decide_eq_false cc
              have ec : c = l1.length := by have := HJ.out; omega
              have hq4 := HQ2.out
              rw [ec, HQF.out] at hq4
              cases hq4
              have hs := HSTEP.out
              obtain ⟨b, hb_, hs⟩ := Option.bind_eq_some_iff.mp hs
              have HBV := Aside0.mk hb_
              clear hb_ HQ2 HQF HSTEP ec cc
              have hv0 := (blk_cell BV.out 0).trans (show _ = some (Value.slice Ai v.length ci_) from rfl)
              have hv1 := (blk_cell BV.out 1).trans (show _ = some (Value.int .i64 qf) from rfl)
              have hb0 := (blk_cell BG.out 0).trans (show _ = some vw from rfl)
              have hb1 := (blk_cell BG.out 1).trans (show _ = some (Value.int .i64 sq) from rfl)
              have hb2 := blk_frozen BG.out 0
              have hb3 := blk_frozen BG.out 1
              cases b with
              | false =>
                rw [if_neg (by decide)] at hs
                cases hs
                go_wp2_with (first | (go_at_call 97; (with_reducible refine (spec_l6Vote.calls k _ _ v qf false _ ?s1 ?s2 HBV.out).mono ?_); (case s1 => exact (Kd.V_reads' HVI.out).2.2); (case s2 => exact (Kd.V_reads' HVI.out).2.1); rintro e w11 ⟨rfl, hb⟩; have n0_ := Aside0.mk ((hb.block _ (blk_lt BV.out)).trans BV.out); have n1_ := Aside0.mk ((hb.block _ (blk_lt BG.out)).trans BG.out); have n2_ := Aside0.mk ((hb.block _ (blk_lt BR.out)).trans BR.out); have n3_ := Aside0.mk (Kd.V_below HV.out hb); have n4_ := Aside0.mk (Kd.V_below HW.out hb); have n5_ := Aside0.mk (Kd.V_below HVI.out hb); have n6_ := Aside0.mk (below_step HB.out hb); have n7_ := Aside0.mk (Nat.le_trans HSZ.out hb.size); have n9_ := Aside0.mk ((hb.cell (World.block_lt_of_cell? _ _ HROW.out)).trans HROW.out); clear BV BG BR HV HW HVI HB HSZ HROW; have BV := n0_; have BG := n1_; have BR := n2_; have HV := n3_; have HW := n4_; have HVI := n5_; have HB := n6_; have HSZ := n7_; have HROW := n9_; clear n0_ n1_ n2_ n3_ n4_ n5_ n6_ n7_ n9_; clear hb; have hv0 := (blk_cell BV.out 0).trans (show _ = some (Value.slice Ai v.length ci_) from rfl); have hv1 := (blk_cell BV.out 1).trans (show _ = some (Value.int .i64 qf) from rfl); have hb0 := (blk_cell BG.out 0).trans (show _ = some vw from rfl); have hb1 := (blk_cell BG.out 1).trans (show _ = some (Value.int .i64 sq) from rfl); have hb2 := blk_frozen BG.out 0; have hb3 := blk_frozen BG.out 1))
                go_roundw
                case rel => exact ⟨i + 1, (sl, sq, sz), vw, by go_num, rfl, ⟨HIL.out⟩, HNXT, BG, BR, HV, HW, HB, HSZ⟩
                case measure => have := HIL.out; simp [intOf]; omega
              | true =>
                rw [if_pos rfl] at hs
                obtain ⟨z, hz, hs⟩ := Option.bind_eq_some_iff.mp hs
                have HSM := Aside0.mk hz
                clear hz
                by_cases c0_ : sz < 0
                · have d6 : decide (sz < 0) = true := decide_eq_true c0_
                  rw [if_pos (Or.inl c0_)] at hs
                  clear c0_
                  obtain ⟨y, hy, hs⟩ := Option.bind_eq_some_iff.mp hs
                  obtain ⟨ee, he, hs⟩ := Option.bind_eq_some_iff.mp hs
                  have HTO := Aside0.mk hy
                  have HSA := Aside0.mk he
                  clear hy he
                  cases ee with
                  | false =>
                    rw [if_neg (by decide)] at hs
                    cases hs
                    go_wp2_with (first | (go_at_call 97; (with_reducible refine (spec_l6Vote.calls k _ _ v qf true _ ?s1 ?s2 HBV.out).mono ?_); (case s1 => exact (Kd.V_reads' HVI.out).2.2); (case s2 => exact (Kd.V_reads' HVI.out).2.1); rintro e w11 ⟨rfl, hb⟩; have n0_ := Aside0.mk ((hb.block _ (blk_lt BV.out)).trans BV.out); have n1_ := Aside0.mk ((hb.block _ (blk_lt BG.out)).trans BG.out); have n2_ := Aside0.mk ((hb.block _ (blk_lt BR.out)).trans BR.out); have n3_ := Aside0.mk (Kd.V_below HV.out hb); have n4_ := Aside0.mk (Kd.V_below HW.out hb); have n5_ := Aside0.mk (Kd.V_below HVI.out hb); have n6_ := Aside0.mk (below_step HB.out hb); have n7_ := Aside0.mk (Nat.le_trans HSZ.out hb.size); have n9_ := Aside0.mk ((hb.cell (World.block_lt_of_cell? _ _ HROW.out)).trans HROW.out); clear BV BG BR HV HW HVI HB HSZ HROW; have BV := n0_; have BG := n1_; have BR := n2_; have HV := n3_; have HW := n4_; have HVI := n5_; have HB := n6_; have HSZ := n7_; have HROW := n9_; clear n0_ n1_ n2_ n3_ n4_ n5_ n6_ n7_ n9_; clear hb; have hv0 := (blk_cell BV.out 0).trans (show _ = some (Value.slice Ai v.length ci_) from rfl); have hv1 := (blk_cell BV.out 1).trans (show _ = some (Value.int .i64 qf) from rfl); have hb0 := (blk_cell BG.out 0).trans (show _ = some vw from rfl); have hb1 := (blk_cell BG.out 1).trans (show _ = some (Value.int .i64 sq) from rfl); have hb2 := blk_frozen BG.out 0; have hb3 := blk_frozen BG.out 1) | (go_at_call 98; (with_reducible refine (spec_l6Told.calls k _ _ v qf y _ ?s1 ?s2 HTO.out).mono ?_); (case s1 => exact (Kd.V_reads' HVI.out).2.2); (case s2 => exact (Kd.V_reads' HVI.out).2.1); rintro e w13 ⟨vt, rfl, hpr, hb⟩; obtain ⟨At, ct, rfl, hlt_, hct_⟩ := Kd.R_reads hpr; have n0_ := Aside0.mk ((hb.block _ (blk_lt BV.out)).trans BV.out); have n1_ := Aside0.mk ((hb.block _ (blk_lt BG.out)).trans BG.out); have n2_ := Aside0.mk ((hb.block _ (blk_lt BR.out)).trans BR.out); have n3_ := Aside0.mk (Kd.V_below HV.out hb); have n4_ := Aside0.mk (Kd.V_below HW.out hb); have n5_ := Aside0.mk (Kd.V_below HVI.out hb); have n6_ := Aside0.mk (below_step HB.out hb); have n7_ := Aside0.mk (Nat.le_trans HSZ.out hb.size); have n9_ := Aside0.mk ((hb.cell (World.block_lt_of_cell? _ _ HROW.out)).trans HROW.out); clear BV BG BR HV HW HVI HB HSZ HROW; have BV := n0_; have BG := n1_; have BR := n2_; have HV := n3_; have HW := n4_; have HVI := n5_; have HB := n6_; have HSZ := n7_; have HROW := n9_; clear n0_ n1_ n2_ n3_ n4_ n5_ n6_ n7_ n9_; have HCT := Aside0.mk hct_; have HLT := Aside0.mk hlt_; clear hb hpr hct_ hlt_; have hv0 := (blk_cell BV.out 0).trans (show _ = some (Value.slice Ai v.length ci_) from rfl); have hv1 := (blk_cell BV.out 1).trans (show _ = some (Value.int .i64 qf) from rfl); have hb0 := (blk_cell BG.out 0).trans (show _ = some vw from rfl); have hb1 := (blk_cell BG.out 1).trans (show _ = some (Value.int .i64 sq) from rfl); have hb2 := blk_frozen BG.out 0; have hb3 := blk_frozen BG.out 1) | (go_at_call 108; (with_reducible refine (spec_l1Same.calls k _ _ y _ _ l1 false _ ?s1 ?s2 ?s3 ?s4 HSA.out).mono ?_); (case s1 => exact HCT.out); (case s2 => exact HLT.out); (case s3 => exact Kd.C_below HR1.out HB.out); (case s4 => exact HC1.out); rintro e w14 ⟨rfl, ⟨nd5, rfl⟩⟩; have n0_ := Aside0.mk (blk_drewN BV.out nd5); have n1_ := Aside0.mk (blk_drewN BG.out nd5); have n2_ := Aside0.mk (blk_drewN BR.out nd5); have n3_ := Aside0.mk (Kd.V_drewN HV.out nd5); have n4_ := Aside0.mk (Kd.V_drewN HW.out nd5); have n5_ := Aside0.mk (Kd.V_drewN HVI.out nd5); have n6_ := Aside0.mk (pw_below_drewN HB.out nd5); have n7_ := Aside0.mk (show sA ≤ (w13.drewN nd5).heap.size from HSZ.out); have n9_ := Aside0.mk (show (w13.drewN nd5).cell? (ad.add i) = some (Value.slice Ai v.length ci_) from HROW.out); clear BV BG BR HV HW HVI HB HSZ HROW; have BV := n0_; have BG := n1_; have BR := n2_; have HV := n3_; have HW := n4_; have HVI := n5_; have HB := n6_; have HSZ := n7_; have HROW := n9_; clear n0_ n1_ n2_ n3_ n4_ n5_ n6_ n7_ n9_; clear HCT; generalize World.drewN _ nd5 = w15 at BV BG BR HV HW HVI HB HSZ HROW ⊢; have hv0 := (blk_cell BV.out 0).trans (show _ = some (Value.slice Ai v.length ci_) from rfl); have hv1 := (blk_cell BV.out 1).trans (show _ = some (Value.int .i64 qf) from rfl); have hb0 := (blk_cell BG.out 0).trans (show _ = some vw from rfl); have hb1 := (blk_cell BG.out 1).trans (show _ = some (Value.int .i64 sq) from rfl); have hb2 := blk_frozen BG.out 0; have hb3 := blk_frozen BG.out 1))
                    go_roundw
                    case rel => exact ⟨i + 1, (sl, sq, sz), vw, by go_num, rfl, ⟨HIL.out⟩, HNXT, BG, BR, HV, HW, HB, HSZ⟩
                    case measure => have := HIL.out; simp [intOf]; omega
                  | true =>
                    rw [if_pos rfl] at hs
                    cases hs
                    go_wp2_with (first | (go_at_call 97; (with_reducible refine (spec_l6Vote.calls k _ _ v qf true _ ?s1 ?s2 HBV.out).mono ?_); (case s1 => exact (Kd.V_reads' HVI.out).2.2); (case s2 => exact (Kd.V_reads' HVI.out).2.1); rintro e w11 ⟨rfl, hb⟩; have n0_ := Aside0.mk ((hb.block _ (blk_lt BV.out)).trans BV.out); have n1_ := Aside0.mk ((hb.block _ (blk_lt BG.out)).trans BG.out); have n2_ := Aside0.mk ((hb.block _ (blk_lt BR.out)).trans BR.out); have n3_ := Aside0.mk (Kd.V_below HV.out hb); have n4_ := Aside0.mk (Kd.V_below HW.out hb); have n5_ := Aside0.mk (Kd.V_below HVI.out hb); have n6_ := Aside0.mk (below_step HB.out hb); have n7_ := Aside0.mk (Nat.le_trans HSZ.out hb.size); have n9_ := Aside0.mk ((hb.cell (World.block_lt_of_cell? _ _ HROW.out)).trans HROW.out); clear BV BG BR HV HW HVI HB HSZ HROW; have BV := n0_; have BG := n1_; have BR := n2_; have HV := n3_; have HW := n4_; have HVI := n5_; have HB := n6_; have HSZ := n7_; have HROW := n9_; clear n0_ n1_ n2_ n3_ n4_ n5_ n6_ n7_ n9_; clear hb; have hv0 := (blk_cell BV.out 0).trans (show _ = some (Value.slice Ai v.length ci_) from rfl); have hv1 := (blk_cell BV.out 1).trans (show _ = some (Value.int .i64 qf) from rfl); have hb0 := (blk_cell BG.out 0).trans (show _ = some vw from rfl); have hb1 := (blk_cell BG.out 1).trans (show _ = some (Value.int .i64 sq) from rfl); have hb2 := blk_frozen BG.out 0; have hb3 := blk_frozen BG.out 1) | (go_at_call 107; (with_reducible refine (spec_l6Sum.calls k _ _ v qf z _ ?s1 ?s2 HSM.out).mono ?_); (case s1 => exact (Kd.V_reads' HVI2.out).2.2); (case s2 => exact (Kd.V_reads' HVI2.out).2.1); rintro e w16 ⟨rfl, hb⟩; have BG3 := Aside0.mk ((hb.block _ (blk_lt BG2.out)).trans BG2.out); have BR3 := Aside0.mk ((hb.block _ (blk_lt BR2.out)).trans BR2.out); have HV3 := Aside0.mk (Kd.V_below HV2.out hb); have HVI3 := Aside0.mk (Kd.V_below HVI2.out hb); have HB3 := Aside0.mk (below_step HB2.out hb); have HSZ3 := Aside0.mk (Nat.le_trans HSZ2.out hb.size); clear hb) | (go_at_call 98; (with_reducible refine (spec_l6Told.calls k _ _ v qf y _ ?s1 ?s2 HTO.out).mono ?_); (case s1 => exact (Kd.V_reads' HVI.out).2.2); (case s2 => exact (Kd.V_reads' HVI.out).2.1); rintro e w13 ⟨vt, rfl, hpr, hb⟩; obtain ⟨At, ct, rfl, hlt_, hct_⟩ := Kd.R_reads hpr; have n0_ := Aside0.mk ((hb.block _ (blk_lt BV.out)).trans BV.out); have n1_ := Aside0.mk ((hb.block _ (blk_lt BG.out)).trans BG.out); have n2_ := Aside0.mk ((hb.block _ (blk_lt BR.out)).trans BR.out); have n3_ := Aside0.mk (Kd.V_below HV.out hb); have n4_ := Aside0.mk (Kd.V_below HW.out hb); have n5_ := Aside0.mk (Kd.V_below HVI.out hb); have n6_ := Aside0.mk (below_step HB.out hb); have n7_ := Aside0.mk (Nat.le_trans HSZ.out hb.size); have n9_ := Aside0.mk ((hb.cell (World.block_lt_of_cell? _ _ HROW.out)).trans HROW.out); clear BV BG BR HV HW HVI HB HSZ HROW; have BV := n0_; have BG := n1_; have BR := n2_; have HV := n3_; have HW := n4_; have HVI := n5_; have HB := n6_; have HSZ := n7_; have HROW := n9_; clear n0_ n1_ n2_ n3_ n4_ n5_ n6_ n7_ n9_; have HCT := Aside0.mk hct_; have HLT := Aside0.mk hlt_; clear hb hpr hct_ hlt_; have hv0 := (blk_cell BV.out 0).trans (show _ = some (Value.slice Ai v.length ci_) from rfl); have hv1 := (blk_cell BV.out 1).trans (show _ = some (Value.int .i64 qf) from rfl); have hb0 := (blk_cell BG.out 0).trans (show _ = some vw from rfl); have hb1 := (blk_cell BG.out 1).trans (show _ = some (Value.int .i64 sq) from rfl); have hb2 := blk_frozen BG.out 0; have hb3 := blk_frozen BG.out 1) | (go_at_call 108; (with_reducible refine (spec_l1Same.calls k _ _ y _ _ l1 true _ ?s1 ?s2 ?s3 ?s4 HSA.out).mono ?_); (case s1 => exact HCT.out); (case s2 => exact HLT.out); (case s3 => exact Kd.C_below HR1.out HB.out); (case s4 => exact HC1.out); rintro e w14 ⟨rfl, ⟨nd5, rfl⟩⟩; have n0_ := Aside0.mk (blk_drewN BV.out nd5); have n1_ := Aside0.mk (blk_drewN BG.out nd5); have n2_ := Aside0.mk (blk_drewN BR.out nd5); have n3_ := Aside0.mk (Kd.V_drewN HV.out nd5); have n4_ := Aside0.mk (Kd.V_drewN HW.out nd5); have n5_ := Aside0.mk (Kd.V_drewN HVI.out nd5); have n6_ := Aside0.mk (pw_below_drewN HB.out nd5); have n7_ := Aside0.mk (show sA ≤ (w13.drewN nd5).heap.size from HSZ.out); have n9_ := Aside0.mk (show (w13.drewN nd5).cell? (ad.add i) = some (Value.slice Ai v.length ci_) from HROW.out); clear BV BG BR HV HW HVI HB HSZ HROW; have BV := n0_; have BG := n1_; have BR := n2_; have HV := n3_; have HW := n4_; have HVI := n5_; have HB := n6_; have HSZ := n7_; have HROW := n9_; clear n0_ n1_ n2_ n3_ n4_ n5_ n6_ n7_ n9_; clear HCT; generalize World.drewN _ nd5 = w15 at BV BG BR HV HW HVI HB HSZ HROW ⊢; have hv0 := (blk_cell BV.out 0).trans (show _ = some (Value.slice Ai v.length ci_) from rfl); have hv1 := (blk_cell BV.out 1).trans (show _ = some (Value.int .i64 qf) from rfl); have hb0 := (blk_cell BG.out 0).trans (show _ = some vw from rfl); have hb1 := (blk_cell BG.out 1).trans (show _ = some (Value.int .i64 sq) from rfl); have hb2 := blk_frozen BG.out 0; have hb3 := blk_frozen BG.out 1; have BG2 := Aside0.mk (blk_put (blk_put BG.out 0 (.slice Ai v.length ci_) rfl) 1 (.int .i64 qf) rfl); have BR2 := Aside0.mk (blk_far (blk_far BR.out (show w.heap.size ≠ gb from Nat.ne_of_lt HQ.out.1) (p := ⟨gb, 0, none⟩) (.slice Ai v.length ci_)) (show w.heap.size ≠ gb from Nat.ne_of_lt HQ.out.1) (p := ⟨gb, 1, none⟩) (.int .i64 qf)); have HV2 := Aside0.mk (Kd.V_far (Kd.V_far HV.out (p := ⟨gb, 0, none⟩) (fun k_ hk => by have h1 := hk.1; have h2 := HQ.out.2.1; show k_ ≠ gb; omega) (.slice Ai v.length ci_)) (p := ⟨gb, 1, none⟩) (fun k_ hk => by have h1 := hk.1; have h2 := HQ.out.2.1; show k_ ≠ gb; omega) (.int .i64 qf)); have HVI2 := Aside0.mk (Kd.V_far (Kd.V_far HVI.out (p := ⟨gb, 0, none⟩) (fun k_ hk => by have h1 := hk.1; have h2 := HQ.out.2.1; show k_ ≠ gb; omega) (.slice Ai v.length ci_)) (p := ⟨gb, 1, none⟩) (fun k_ hk => by have h1 := hk.1; have h2 := HQ.out.2.1; show k_ ≠ gb; omega) (.int .i64 qf)); have HB2 := Aside0.mk (below_set (j := 1) (v := .int .i64 qf) (below_set (j := 0) (v := (.slice Ai v.length ci_)) HB.out (Nat.le_of_lt HQ.out.1)) (Nat.le_of_lt HQ.out.1)); have HSZ2 := Aside0.mk (show sA ≤ ((w15.setCell ⟨gb, 0, none⟩ (.slice Ai v.length ci_)).setCell ⟨gb, 1, none⟩ (.int .i64 qf)).heap.size from Nat.le_trans HSZ.out (by simp [World.setCell]))))
                    go_roundw
                    case rel => exact ⟨i + 1, (v, qf, z), (.slice Ai v.length ci_), by go_num, rfl, ⟨HIL.out⟩, HNXT, BG3, BR3, HV3, HVI3, HB3, HSZ3⟩
                    case measure => have := HIL.out; simp [intOf]; omega
                · have d6 : decide (sz < 0) = false := decide_eq_false c0_
                  by_cases c1_ : z < sz
                  · have d7 : decide (z < sz) = true := decide_eq_true c1_
                    rw [if_pos (Or.inr c1_)] at hs
                    clear c0_ c1_
                    obtain ⟨y, hy, hs⟩ := Option.bind_eq_some_iff.mp hs
                    obtain ⟨ee, he, hs⟩ := Option.bind_eq_some_iff.mp hs
                    have HTO := Aside0.mk hy
                    have HSA := Aside0.mk he
                    clear hy he
                    cases ee with
                    | false =>
                      rw [if_neg (by decide)] at hs
                      cases hs
                      go_wp2_with (first | (go_at_call 97; (with_reducible refine (spec_l6Vote.calls k _ _ v qf true _ ?s1 ?s2 HBV.out).mono ?_); (case s1 => exact (Kd.V_reads' HVI.out).2.2); (case s2 => exact (Kd.V_reads' HVI.out).2.1); rintro e w11 ⟨rfl, hb⟩; have n0_ := Aside0.mk ((hb.block _ (blk_lt BV.out)).trans BV.out); have n1_ := Aside0.mk ((hb.block _ (blk_lt BG.out)).trans BG.out); have n2_ := Aside0.mk ((hb.block _ (blk_lt BR.out)).trans BR.out); have n3_ := Aside0.mk (Kd.V_below HV.out hb); have n4_ := Aside0.mk (Kd.V_below HW.out hb); have n5_ := Aside0.mk (Kd.V_below HVI.out hb); have n6_ := Aside0.mk (below_step HB.out hb); have n7_ := Aside0.mk (Nat.le_trans HSZ.out hb.size); have n9_ := Aside0.mk ((hb.cell (World.block_lt_of_cell? _ _ HROW.out)).trans HROW.out); clear BV BG BR HV HW HVI HB HSZ HROW; have BV := n0_; have BG := n1_; have BR := n2_; have HV := n3_; have HW := n4_; have HVI := n5_; have HB := n6_; have HSZ := n7_; have HROW := n9_; clear n0_ n1_ n2_ n3_ n4_ n5_ n6_ n7_ n9_; clear hb; have hv0 := (blk_cell BV.out 0).trans (show _ = some (Value.slice Ai v.length ci_) from rfl); have hv1 := (blk_cell BV.out 1).trans (show _ = some (Value.int .i64 qf) from rfl); have hb0 := (blk_cell BG.out 0).trans (show _ = some vw from rfl); have hb1 := (blk_cell BG.out 1).trans (show _ = some (Value.int .i64 sq) from rfl); have hb2 := blk_frozen BG.out 0; have hb3 := blk_frozen BG.out 1) | (go_at_call 107; (with_reducible refine (spec_l6Sum.calls k _ _ v qf z _ ?s1 ?s2 HSM.out).mono ?_); (case s1 => exact (Kd.V_reads' HVI.out).2.2); (case s2 => exact (Kd.V_reads' HVI.out).2.1); rintro e w12 ⟨rfl, hb⟩; have n0_ := Aside0.mk ((hb.block _ (blk_lt BV.out)).trans BV.out); have n1_ := Aside0.mk ((hb.block _ (blk_lt BG.out)).trans BG.out); have n2_ := Aside0.mk ((hb.block _ (blk_lt BR.out)).trans BR.out); have n3_ := Aside0.mk (Kd.V_below HV.out hb); have n4_ := Aside0.mk (Kd.V_below HW.out hb); have n5_ := Aside0.mk (Kd.V_below HVI.out hb); have n6_ := Aside0.mk (below_step HB.out hb); have n7_ := Aside0.mk (Nat.le_trans HSZ.out hb.size); have n9_ := Aside0.mk ((hb.cell (World.block_lt_of_cell? _ _ HROW.out)).trans HROW.out); clear BV BG BR HV HW HVI HB HSZ HROW; have BV := n0_; have BG := n1_; have BR := n2_; have HV := n3_; have HW := n4_; have HVI := n5_; have HB := n6_; have HSZ := n7_; have HROW := n9_; clear n0_ n1_ n2_ n3_ n4_ n5_ n6_ n7_ n9_; clear hb; have hv0 := (blk_cell BV.out 0).trans (show _ = some (Value.slice Ai v.length ci_) from rfl); have hv1 := (blk_cell BV.out 1).trans (show _ = some (Value.int .i64 qf) from rfl); have hb0 := (blk_cell BG.out 0).trans (show _ = some vw from rfl); have hb1 := (blk_cell BG.out 1).trans (show _ = some (Value.int .i64 sq) from rfl); have hb2 := blk_frozen BG.out 0; have hb3 := blk_frozen BG.out 1) | (go_at_call 98; (with_reducible refine (spec_l6Told.calls k _ _ v qf y _ ?s1 ?s2 HTO.out).mono ?_); (case s1 => exact (Kd.V_reads' HVI.out).2.2); (case s2 => exact (Kd.V_reads' HVI.out).2.1); rintro e w13 ⟨vt, rfl, hpr, hb⟩; obtain ⟨At, ct, rfl, hlt_, hct_⟩ := Kd.R_reads hpr; have n0_ := Aside0.mk ((hb.block _ (blk_lt BV.out)).trans BV.out); have n1_ := Aside0.mk ((hb.block _ (blk_lt BG.out)).trans BG.out); have n2_ := Aside0.mk ((hb.block _ (blk_lt BR.out)).trans BR.out); have n3_ := Aside0.mk (Kd.V_below HV.out hb); have n4_ := Aside0.mk (Kd.V_below HW.out hb); have n5_ := Aside0.mk (Kd.V_below HVI.out hb); have n6_ := Aside0.mk (below_step HB.out hb); have n7_ := Aside0.mk (Nat.le_trans HSZ.out hb.size); have n9_ := Aside0.mk ((hb.cell (World.block_lt_of_cell? _ _ HROW.out)).trans HROW.out); clear BV BG BR HV HW HVI HB HSZ HROW; have BV := n0_; have BG := n1_; have BR := n2_; have HV := n3_; have HW := n4_; have HVI := n5_; have HB := n6_; have HSZ := n7_; have HROW := n9_; clear n0_ n1_ n2_ n3_ n4_ n5_ n6_ n7_ n9_; have HCT := Aside0.mk hct_; have HLT := Aside0.mk hlt_; clear hb hpr hct_ hlt_; have hv0 := (blk_cell BV.out 0).trans (show _ = some (Value.slice Ai v.length ci_) from rfl); have hv1 := (blk_cell BV.out 1).trans (show _ = some (Value.int .i64 qf) from rfl); have hb0 := (blk_cell BG.out 0).trans (show _ = some vw from rfl); have hb1 := (blk_cell BG.out 1).trans (show _ = some (Value.int .i64 sq) from rfl); have hb2 := blk_frozen BG.out 0; have hb3 := blk_frozen BG.out 1) | (go_at_call 108; (with_reducible refine (spec_l1Same.calls k _ _ y _ _ l1 false _ ?s1 ?s2 ?s3 ?s4 HSA.out).mono ?_); (case s1 => exact HCT.out); (case s2 => exact HLT.out); (case s3 => exact Kd.C_below HR1.out HB.out); (case s4 => exact HC1.out); rintro e w14 ⟨rfl, ⟨nd5, rfl⟩⟩; have n0_ := Aside0.mk (blk_drewN BV.out nd5); have n1_ := Aside0.mk (blk_drewN BG.out nd5); have n2_ := Aside0.mk (blk_drewN BR.out nd5); have n3_ := Aside0.mk (Kd.V_drewN HV.out nd5); have n4_ := Aside0.mk (Kd.V_drewN HW.out nd5); have n5_ := Aside0.mk (Kd.V_drewN HVI.out nd5); have n6_ := Aside0.mk (pw_below_drewN HB.out nd5); have n7_ := Aside0.mk (show sA ≤ (w13.drewN nd5).heap.size from HSZ.out); have n9_ := Aside0.mk (show (w13.drewN nd5).cell? (ad.add i) = some (Value.slice Ai v.length ci_) from HROW.out); clear BV BG BR HV HW HVI HB HSZ HROW; have BV := n0_; have BG := n1_; have BR := n2_; have HV := n3_; have HW := n4_; have HVI := n5_; have HB := n6_; have HSZ := n7_; have HROW := n9_; clear n0_ n1_ n2_ n3_ n4_ n5_ n6_ n7_ n9_; clear HCT; generalize World.drewN _ nd5 = w15 at BV BG BR HV HW HVI HB HSZ HROW ⊢; have hv0 := (blk_cell BV.out 0).trans (show _ = some (Value.slice Ai v.length ci_) from rfl); have hv1 := (blk_cell BV.out 1).trans (show _ = some (Value.int .i64 qf) from rfl); have hb0 := (blk_cell BG.out 0).trans (show _ = some vw from rfl); have hb1 := (blk_cell BG.out 1).trans (show _ = some (Value.int .i64 sq) from rfl); have hb2 := blk_frozen BG.out 0; have hb3 := blk_frozen BG.out 1))
                      go_roundw
                      case rel => exact ⟨i + 1, (sl, sq, sz), vw, by go_num, rfl, ⟨HIL.out⟩, HNXT, BG, BR, HV, HW, HB, HSZ⟩
                      case measure => have := HIL.out; simp [intOf]; omega
                    | true =>
                      rw [if_pos rfl] at hs
                      cases hs
                      go_wp2_with (first | (go_at_call 97; (with_reducible refine (spec_l6Vote.calls k _ _ v qf true _ ?s1 ?s2 HBV.out).mono ?_); (case s1 => exact (Kd.V_reads' HVI.out).2.2); (case s2 => exact (Kd.V_reads' HVI.out).2.1); rintro e w11 ⟨rfl, hb⟩; have n0_ := Aside0.mk ((hb.block _ (blk_lt BV.out)).trans BV.out); have n1_ := Aside0.mk ((hb.block _ (blk_lt BG.out)).trans BG.out); have n2_ := Aside0.mk ((hb.block _ (blk_lt BR.out)).trans BR.out); have n3_ := Aside0.mk (Kd.V_below HV.out hb); have n4_ := Aside0.mk (Kd.V_below HW.out hb); have n5_ := Aside0.mk (Kd.V_below HVI.out hb); have n6_ := Aside0.mk (below_step HB.out hb); have n7_ := Aside0.mk (Nat.le_trans HSZ.out hb.size); have n9_ := Aside0.mk ((hb.cell (World.block_lt_of_cell? _ _ HROW.out)).trans HROW.out); clear BV BG BR HV HW HVI HB HSZ HROW; have BV := n0_; have BG := n1_; have BR := n2_; have HV := n3_; have HW := n4_; have HVI := n5_; have HB := n6_; have HSZ := n7_; have HROW := n9_; clear n0_ n1_ n2_ n3_ n4_ n5_ n6_ n7_ n9_; clear hb; have hv0 := (blk_cell BV.out 0).trans (show _ = some (Value.slice Ai v.length ci_) from rfl); have hv1 := (blk_cell BV.out 1).trans (show _ = some (Value.int .i64 qf) from rfl); have hb0 := (blk_cell BG.out 0).trans (show _ = some vw from rfl); have hb1 := (blk_cell BG.out 1).trans (show _ = some (Value.int .i64 sq) from rfl); have hb2 := blk_frozen BG.out 0; have hb3 := blk_frozen BG.out 1) | (go_at_call 107; (with_reducible refine (spec_l6Sum.calls k _ _ v qf z _ ?s1 ?s2 HSM.out).mono ?_); (case s1 => exact (Kd.V_reads' HVI2.out).2.2); (case s2 => exact (Kd.V_reads' HVI2.out).2.1); rintro e w16 ⟨rfl, hb⟩; have BG3 := Aside0.mk ((hb.block _ (blk_lt BG2.out)).trans BG2.out); have BR3 := Aside0.mk ((hb.block _ (blk_lt BR2.out)).trans BR2.out); have HV3 := Aside0.mk (Kd.V_below HV2.out hb); have HVI3 := Aside0.mk (Kd.V_below HVI2.out hb); have HB3 := Aside0.mk (below_step HB2.out hb); have HSZ3 := Aside0.mk (Nat.le_trans HSZ2.out hb.size); clear hb) | (go_at_call 107; (with_reducible refine (spec_l6Sum.calls k _ _ v qf z _ ?s1 ?s2 HSM.out).mono ?_); (case s1 => exact (Kd.V_reads' HVI.out).2.2); (case s2 => exact (Kd.V_reads' HVI.out).2.1); rintro e w12 ⟨rfl, hb⟩; have n0_ := Aside0.mk ((hb.block _ (blk_lt BV.out)).trans BV.out); have n1_ := Aside0.mk ((hb.block _ (blk_lt BG.out)).trans BG.out); have n2_ := Aside0.mk ((hb.block _ (blk_lt BR.out)).trans BR.out); have n3_ := Aside0.mk (Kd.V_below HV.out hb); have n4_ := Aside0.mk (Kd.V_below HW.out hb); have n5_ := Aside0.mk (Kd.V_below HVI.out hb); have n6_ := Aside0.mk (below_step HB.out hb); have n7_ := Aside0.mk (Nat.le_trans HSZ.out hb.size); have n9_ := Aside0.mk ((hb.cell (World.block_lt_of_cell? _ _ HROW.out)).trans HROW.out); clear BV BG BR HV HW HVI HB HSZ HROW; have BV := n0_; have BG := n1_; have BR := n2_; have HV := n3_; have HW := n4_; have HVI := n5_; have HB := n6_; have HSZ := n7_; have HROW := n9_; clear n0_ n1_ n2_ n3_ n4_ n5_ n6_ n7_ n9_; clear hb; have hv0 := (blk_cell BV.out 0).trans (show _ = some (Value.slice Ai v.length ci_) from rfl); have hv1 := (blk_cell BV.out 1).trans (show _ = some (Value.int .i64 qf) from rfl); have hb0 := (blk_cell BG.out 0).trans (show _ = some vw from rfl); have hb1 := (blk_cell BG.out 1).trans (show _ = some (Value.int .i64 sq) from rfl); have hb2 := blk_frozen BG.out 0; have hb3 := blk_frozen BG.out 1) | (go_at_call 98; (with_reducible refine (spec_l6Told.calls k _ _ v qf y _ ?s1 ?s2 HTO.out).mono ?_); (case s1 => exact (Kd.V_reads' HVI.out).2.2); (case s2 => exact (Kd.V_reads' HVI.out).2.1); rintro e w13 ⟨vt, rfl, hpr, hb⟩; obtain ⟨At, ct, rfl, hlt_, hct_⟩ := Kd.R_reads hpr; have n0_ := Aside0.mk ((hb.block _ (blk_lt BV.out)).trans BV.out); have n1_ := Aside0.mk ((hb.block _ (blk_lt BG.out)).trans BG.out); have n2_ := Aside0.mk ((hb.block _ (blk_lt BR.out)).trans BR.out); have n3_ := Aside0.mk (Kd.V_below HV.out hb); have n4_ := Aside0.mk (Kd.V_below HW.out hb); have n5_ := Aside0.mk (Kd.V_below HVI.out hb); have n6_ := Aside0.mk (below_step HB.out hb); have n7_ := Aside0.mk (Nat.le_trans HSZ.out hb.size); have n9_ := Aside0.mk ((hb.cell (World.block_lt_of_cell? _ _ HROW.out)).trans HROW.out); clear BV BG BR HV HW HVI HB HSZ HROW; have BV := n0_; have BG := n1_; have BR := n2_; have HV := n3_; have HW := n4_; have HVI := n5_; have HB := n6_; have HSZ := n7_; have HROW := n9_; clear n0_ n1_ n2_ n3_ n4_ n5_ n6_ n7_ n9_; have HCT := Aside0.mk hct_; have HLT := Aside0.mk hlt_; clear hb hpr hct_ hlt_; have hv0 := (blk_cell BV.out 0).trans (show _ = some (Value.slice Ai v.length ci_) from rfl); have hv1 := (blk_cell BV.out 1).trans (show _ = some (Value.int .i64 qf) from rfl); have hb0 := (blk_cell BG.out 0).trans (show _ = some vw from rfl); have hb1 := (blk_cell BG.out 1).trans (show _ = some (Value.int .i64 sq) from rfl); have hb2 := blk_frozen BG.out 0; have hb3 := blk_frozen BG.out 1) | (go_at_call 108; (with_reducible refine (spec_l1Same.calls k _ _ y _ _ l1 true _ ?s1 ?s2 ?s3 ?s4 HSA.out).mono ?_); (case s1 => exact HCT.out); (case s2 => exact HLT.out); (case s3 => exact Kd.C_below HR1.out HB.out); (case s4 => exact HC1.out); rintro e w14 ⟨rfl, ⟨nd5, rfl⟩⟩; have n0_ := Aside0.mk (blk_drewN BV.out nd5); have n1_ := Aside0.mk (blk_drewN BG.out nd5); have n2_ := Aside0.mk (blk_drewN BR.out nd5); have n3_ := Aside0.mk (Kd.V_drewN HV.out nd5); have n4_ := Aside0.mk (Kd.V_drewN HW.out nd5); have n5_ := Aside0.mk (Kd.V_drewN HVI.out nd5); have n6_ := Aside0.mk (pw_below_drewN HB.out nd5); have n7_ := Aside0.mk (show sA ≤ (w13.drewN nd5).heap.size from HSZ.out); have n9_ := Aside0.mk (show (w13.drewN nd5).cell? (ad.add i) = some (Value.slice Ai v.length ci_) from HROW.out); clear BV BG BR HV HW HVI HB HSZ HROW; have BV := n0_; have BG := n1_; have BR := n2_; have HV := n3_; have HW := n4_; have HVI := n5_; have HB := n6_; have HSZ := n7_; have HROW := n9_; clear n0_ n1_ n2_ n3_ n4_ n5_ n6_ n7_ n9_; clear HCT; generalize World.drewN _ nd5 = w15 at BV BG BR HV HW HVI HB HSZ HROW ⊢; have hv0 := (blk_cell BV.out 0).trans (show _ = some (Value.slice Ai v.length ci_) from rfl); have hv1 := (blk_cell BV.out 1).trans (show _ = some (Value.int .i64 qf) from rfl); have hb0 := (blk_cell BG.out 0).trans (show _ = some vw from rfl); have hb1 := (blk_cell BG.out 1).trans (show _ = some (Value.int .i64 sq) from rfl); have hb2 := blk_frozen BG.out 0; have hb3 := blk_frozen BG.out 1; have BG2 := Aside0.mk (blk_put (blk_put BG.out 0 (.slice Ai v.length ci_) rfl) 1 (.int .i64 qf) rfl); have BR2 := Aside0.mk (blk_far (blk_far BR.out (show w.heap.size ≠ gb from Nat.ne_of_lt HQ.out.1) (p := ⟨gb, 0, none⟩) (.slice Ai v.length ci_)) (show w.heap.size ≠ gb from Nat.ne_of_lt HQ.out.1) (p := ⟨gb, 1, none⟩) (.int .i64 qf)); have HV2 := Aside0.mk (Kd.V_far (Kd.V_far HV.out (p := ⟨gb, 0, none⟩) (fun k_ hk => by have h1 := hk.1; have h2 := HQ.out.2.1; show k_ ≠ gb; omega) (.slice Ai v.length ci_)) (p := ⟨gb, 1, none⟩) (fun k_ hk => by have h1 := hk.1; have h2 := HQ.out.2.1; show k_ ≠ gb; omega) (.int .i64 qf)); have HVI2 := Aside0.mk (Kd.V_far (Kd.V_far HVI.out (p := ⟨gb, 0, none⟩) (fun k_ hk => by have h1 := hk.1; have h2 := HQ.out.2.1; show k_ ≠ gb; omega) (.slice Ai v.length ci_)) (p := ⟨gb, 1, none⟩) (fun k_ hk => by have h1 := hk.1; have h2 := HQ.out.2.1; show k_ ≠ gb; omega) (.int .i64 qf)); have HB2 := Aside0.mk (below_set (j := 1) (v := .int .i64 qf) (below_set (j := 0) (v := (.slice Ai v.length ci_)) HB.out (Nat.le_of_lt HQ.out.1)) (Nat.le_of_lt HQ.out.1)); have HSZ2 := Aside0.mk (show sA ≤ ((w15.setCell ⟨gb, 0, none⟩ (.slice Ai v.length ci_)).setCell ⟨gb, 1, none⟩ (.int .i64 qf)).heap.size from Nat.le_trans HSZ.out (by simp [World.setCell]))))
                      go_roundw
                      case rel => exact ⟨i + 1, (v, qf, z), (.slice Ai v.length ci_), by go_num, rfl, ⟨HIL.out⟩, HNXT, BG3, BR3, HV3, HVI3, HB3, HSZ3⟩
                      case measure => have := HIL.out; simp [intOf]; omega
                  · have d7 : decide (z < sz) = false := decide_eq_false c1_
                    rw [if_neg (fun h => h.elim c0_ c1_)] at hs
                    cases hs
                    clear c0_ c1_
                    go_wp2_with (first | (go_at_call 97; (with_reducible refine (spec_l6Vote.calls k _ _ v qf true _ ?s1 ?s2 HBV.out).mono ?_); (case s1 => exact (Kd.V_reads' HVI.out).2.2); (case s2 => exact (Kd.V_reads' HVI.out).2.1); rintro e w11 ⟨rfl, hb⟩; have n0_ := Aside0.mk ((hb.block _ (blk_lt BV.out)).trans BV.out); have n1_ := Aside0.mk ((hb.block _ (blk_lt BG.out)).trans BG.out); have n2_ := Aside0.mk ((hb.block _ (blk_lt BR.out)).trans BR.out); have n3_ := Aside0.mk (Kd.V_below HV.out hb); have n4_ := Aside0.mk (Kd.V_below HW.out hb); have n5_ := Aside0.mk (Kd.V_below HVI.out hb); have n6_ := Aside0.mk (below_step HB.out hb); have n7_ := Aside0.mk (Nat.le_trans HSZ.out hb.size); have n9_ := Aside0.mk ((hb.cell (World.block_lt_of_cell? _ _ HROW.out)).trans HROW.out); clear BV BG BR HV HW HVI HB HSZ HROW; have BV := n0_; have BG := n1_; have BR := n2_; have HV := n3_; have HW := n4_; have HVI := n5_; have HB := n6_; have HSZ := n7_; have HROW := n9_; clear n0_ n1_ n2_ n3_ n4_ n5_ n6_ n7_ n9_; clear hb; have hv0 := (blk_cell BV.out 0).trans (show _ = some (Value.slice Ai v.length ci_) from rfl); have hv1 := (blk_cell BV.out 1).trans (show _ = some (Value.int .i64 qf) from rfl); have hb0 := (blk_cell BG.out 0).trans (show _ = some vw from rfl); have hb1 := (blk_cell BG.out 1).trans (show _ = some (Value.int .i64 sq) from rfl); have hb2 := blk_frozen BG.out 0; have hb3 := blk_frozen BG.out 1) | (go_at_call 107; (with_reducible refine (spec_l6Sum.calls k _ _ v qf z _ ?s1 ?s2 HSM.out).mono ?_); (case s1 => exact (Kd.V_reads' HVI.out).2.2); (case s2 => exact (Kd.V_reads' HVI.out).2.1); rintro e w12 ⟨rfl, hb⟩; have n0_ := Aside0.mk ((hb.block _ (blk_lt BV.out)).trans BV.out); have n1_ := Aside0.mk ((hb.block _ (blk_lt BG.out)).trans BG.out); have n2_ := Aside0.mk ((hb.block _ (blk_lt BR.out)).trans BR.out); have n3_ := Aside0.mk (Kd.V_below HV.out hb); have n4_ := Aside0.mk (Kd.V_below HW.out hb); have n5_ := Aside0.mk (Kd.V_below HVI.out hb); have n6_ := Aside0.mk (below_step HB.out hb); have n7_ := Aside0.mk (Nat.le_trans HSZ.out hb.size); have n9_ := Aside0.mk ((hb.cell (World.block_lt_of_cell? _ _ HROW.out)).trans HROW.out); clear BV BG BR HV HW HVI HB HSZ HROW; have BV := n0_; have BG := n1_; have BR := n2_; have HV := n3_; have HW := n4_; have HVI := n5_; have HB := n6_; have HSZ := n7_; have HROW := n9_; clear n0_ n1_ n2_ n3_ n4_ n5_ n6_ n7_ n9_; clear hb; have hv0 := (blk_cell BV.out 0).trans (show _ = some (Value.slice Ai v.length ci_) from rfl); have hv1 := (blk_cell BV.out 1).trans (show _ = some (Value.int .i64 qf) from rfl); have hb0 := (blk_cell BG.out 0).trans (show _ = some vw from rfl); have hb1 := (blk_cell BG.out 1).trans (show _ = some (Value.int .i64 sq) from rfl); have hb2 := blk_frozen BG.out 0; have hb3 := blk_frozen BG.out 1))
                    go_roundw
                    case rel => exact ⟨i + 1, (sl, sq, sz), vw, by go_num, rfl, ⟨HIL.out⟩, HNXT, BG, BR, HV, HW, HB, HSZ⟩
                    case measure => have := HIL.out; simp [intOf]; omega
        · have d1 : decide ((i : Int) < (all.length : Int)) = false := decide_eq_false (by omega)
          have d2 : decide (i < all.length) = false := decide_eq_false ci
          have ei : i = all.length := by have := HI.out; omega
          have hs := HS.out
          rw [ei, List.take_length, HFIN.out] at hs
          cases hs
          have h := H.out
          simp only [Option.some.injEq, Prod.mk.injEq] at h
          obtain ⟨e1_, e2_, e3_⟩ := h
          subst e1_
          subst e2_
          subst e3_
          obtain ⟨Aw, cw, rfl⟩ := Kd.V_slice HW.out
          have hb0 := (blk_cell BG.out 0).trans (show _ = some (Value.slice Aw fl.length cw) from rfl)
          have hb1 := (blk_cell BG.out 1).trans (show _ = some (Value.int .i64 fq) from rfl)
          have hr0 := (blk_cell BR.out 0).trans (show _ = some (Value.slice none 0 0) from rfl)
          have hr1 := (blk_cell BR.out 1).trans (show _ = some (Value.int .i64 0) from rfl)
          have hf0 := blk_frozen BR.out 0
          have hf1 := blk_frozen BR.out 1
          clear ei ci HS HI H HFIN
          go_wp2
          refine bodyPost_ret (results_ct rfl _ _ w.heap.size 57 #[.slice Aw fl.length cw, .int .i64 fq] (0, 0) _ rfl (blk_put (blk_put BR.out 0 (.slice Aw fl.length cw) rfl) 1 (.int .i64 fq) rfl) Try.underlying57 rfl (by kernel_rfl)) rfl ?_
          exact ⟨_, rfl, Kd.V_mono (Kd.V_far (p := ⟨w.heap.size, 1, none⟩) (Kd.V_far (p := ⟨w.heap.size, 0, none⟩) HW.out (fun k_ hk => by have h1 := hk.1; have h2 := HQ.out; show k_ ≠ w.heap.size; omega) (.slice Aw fl.length cw)) (fun k_ hk => by have h1 := hk.1; have h2 := HQ.out; show k_ ≠ w.heap.size; omega) (.int .i64 fq)) (fun k_ hk => by have h1 := hk.1; have h2 := HQ.out; omega), below_set (below_set HB.out (Nat.le_refl _)) (Nat.le_refl _)⟩
    · rw [if_neg cm] at h; cases h

/-! ### impl_within: function 94 -/
def impl_within.f (a0 : Int) (a1 : Int) (a2 : Int) : Option (Bool) := if a0 ≥ a1 then (some (decide (a0 ≤ a2))) else (some false)
set_option maxHeartbeats 8000000 in
set_option maxRecDepth 100000 in
theorem impl_within.calls (a0 : Int) (a1 : Int) (a2 : Int) (r : Bool) (w : World) (h : impl_within.f a0 a1 a2 = some r) :
    Calls Try.prog 94 #[.int .i64 a0, .int .i64 a1, .int .i64 a2] w fun e w' => e = .returned (.bool r) ∧ Drawn0 w w' := by
  have H : (if a0 ≥ a1 then (some (decide (a0 ≤ a2))) else (some false)) = some r := h
  clear h
  by_cases c4 : a0 ≥ a1
  · rw [if_pos c4] at H
    have c4b0 : decide (a1 ≤ a0) = true := decide_eq_true c4
    clear c4
    obtain rfl := Option.some.inj H
    go_enter Try.func94, Try.ntmps94
    go_wp2
    go_ret
    exact ⟨by first | rfl | (simp; done) | (simp [*]; done), by repeat (first | exact Drawn0.refl _ | apply Drawn0.step)⟩
  · rw [if_neg c4] at H
    have c4b0 : decide (a1 ≤ a0) = false := decide_eq_false c4
    clear c4
    obtain rfl := Option.some.inj H
    go_enter Try.func94, Try.ntmps94
    go_wp2
    go_ret
    exact ⟨by first | rfl | (simp; done) | (simp [*]; done), by repeat (first | exact Drawn0.refl _ | apply Drawn0.step)⟩

/-! ### impl_allWithin: function 84 -/
def impl_allWithin.l0 : Nat → Int → Int → List Int → Int → Int → Option (Bool)
  | 0, _, _, _, _, _ => none
  | k + 1, x1, x2, x9, x10, x11 => if x11 < x10 then (if 0 ≤ x11 then (if x11 < (x9.length : Int) then ((impl_within.f (rd x9 x11) x1 x2).bind fun t189 => (if t189 = true then (impl_allWithin.l0 k x1 x2 x9 x10 (wrap64 (x11 + 1))) else (some false))) else (none)) else (none)) else (some true)
def impl_allWithin.f (k : Nat) (l0 : List Int) (a1 : Int) (a2 : Int) : Option (Bool) := impl_allWithin.l0 k a1 a2 l0 (l0.length : Int) 0
theorem impl_allWithin.mono_l : ∀ k, (∀ y0 y1 y2 y3 y4, LeO (impl_allWithin.l0 k y0 y1 y2 y3 y4) (impl_allWithin.l0 (k + 1) y0 y1 y2 y3 y4))
  | 0 => fun _ _ _ _ _ r h => by simp [impl_allWithin.l0] at h
  | k + 1 => by
    have ih0 := impl_allWithin.mono_l k
    · intro y0 y1 y2 y3 y4
      unfold impl_allWithin.l0
      repeat' first
      | (with_reducible exact ih0 _ _ _ _ _)
      | (with_reducible exact LeO.refl _)
      | (with_reducible exact LeO.none _)
      | (with_reducible refine LeO.ite ?_ ?_)
      | (with_reducible refine LeO.bind ?_ (fun _ => ?_))
      | exact ih0 _ _ _ _ _
      | exact LeO.none _
      | refine LeO.ite ?_ ?_
      | refine LeO.bind ?_ (fun _ => ?_)
theorem impl_allWithin.mono : ∀ a0 a1 a2 k, LeO (impl_allWithin.f k a0 a1 a2) (impl_allWithin.f (k + 1) a0 a1 a2) := by
  intro a0 a1 a2 k
  have ih0 := impl_allWithin.mono_l k
  unfold impl_allWithin.f
  repeat' first
      | (with_reducible exact ih0 _ _ _ _ _)
      | (with_reducible exact LeO.refl _)
      | (with_reducible exact LeO.none _)
      | (with_reducible refine LeO.ite ?_ ?_)
      | (with_reducible refine LeO.bind ?_ (fun _ => ?_))
      | exact ih0 _ _ _ _ _
      | exact LeO.none _
      | refine LeO.ite ?_ ?_
      | refine LeO.bind ?_ (fun _ => ?_)
set_option maxHeartbeats 8000000 in
set_option maxRecDepth 100000 in
theorem impl_allWithin.calls (k : Nat) (A0 : Option Addr) (c0 : Nat) (l0 : List Int) (a1 : Int) (a2 : Int) (r : Bool) (w : World) (hr0 : Kd.C (Kd.int .i64) w A0 l0.length l0) (hc0 : l0.length ≤ c0) (h : impl_allWithin.f k l0 a1 a2 = some r) :
    Calls Try.prog 84 #[.slice A0 l0.length c0, .int .i64 a1, .int .i64 a2] w fun e w' => e = .returned (.bool r) ∧ Drawn0 w w' := by
  have HR0 := Aside0.mk hr0
  have HC0 := Aside0.mk hc0
  clear hr0 hc0
  have H : (impl_allWithin.l0 k a1 a2 l0 (l0.length : Int) 0) = some r := h
  clear h
  have H' := Aside0.mk H
  clear H
  go_enter Try.func84, Try.ntmps84
  go_wp2
  go_loopg [11] k (fun kq v11 w' => ∃ (x11_1 : Int), v11 = .int .i64 x11_1 ∧ Aside0 (impl_allWithin.l0 kq a1 a2 l0 (l0.length : Int) x11_1 = some r) ∧ Aside0 (kq ≤ k) ∧ Drawn0 w w')
  case atStart => exact ⟨(0), (by first | rfl | (simp; done) | (simp [*]; done)), H', ⟨Nat.le_refl _⟩, by repeat (first | exact Drawn0.refl _ | apply Drawn0.step)⟩
  case round =>
    clear H'
    try clear p2
    obtain ⟨x11_1, rfl, HA, HK1, ⟨m1, rfl⟩⟩ := hrel
    cases gk with
    | zero => exact absurd HA.out (by simp [impl_allWithin.l0])
    | succ k1 =>
      have H := HA.out
      clear HA
      simp only [impl_allWithin.l0] at H
      by_cases c4 : x11_1 < (l0.length : Int)
      · rw [if_pos c4] at H
        have c4b0 : decide (x11_1 < (l0.length : Int)) = true := decide_eq_true c4
        clear c4
        by_cases c5 : 0 ≤ x11_1
        · rw [if_pos c5] at H
          have c5b0 : decide (0 ≤ x11_1) = true := decide_eq_true c5
          clear c5
          by_cases c6 : x11_1 < (l0.length : Int)
          · rw [if_pos c6] at H
            have c6b0 : decide (x11_1 < (l0.length : Int)) = true := decide_eq_true c6
            clear c6
            replace H := Option.bind_eq_some_iff.mp H
            obtain ⟨t189, A70, H⟩ := H
            replace H : (if t189 = true then (impl_allWithin.l0 k1 a1 a2 l0 (l0.length : Int) (wrap64 (x11_1 + 1))) else (some false)) = some r := H
            have A7 := Aside0.mk A70
            clear A70
            by_cases c8 : t189 = true
            · subst c8
              have H1 : (impl_allWithin.l0 k1 a1 a2 l0 (l0.length : Int) (wrap64 (x11_1 + 1))) = some r := by rw [if_pos rfl] at H; exact H
              clear H
              have H := H1
              clear H1
              have H' := Aside0.mk H
              clear H
              have p188 : 0 ≤ (x11_1 : Int) := of_decide_eq_true (by first | (with_reducible assumption) | assumption)
              have q188 : x11_1 < (l0.length : Int) := of_decide_eq_true (by first | (with_reducible assumption) | assumption)
              obtain ⟨ad188, e188, hx188_0⟩ := Kd.at_int HR0.out x11_1 p188 q188
              cases e188
              replace p188 := eq_true p188
              replace q188 := eq_true q188
              go_wp2_with (first | ((with_reducible refine gate_callee (f := 94) rfl ?_); refine goesL_ (some 18) rfl rfl Try.func94 (by kernel_rfl) rfl #[.int .i64 (rd l0 x11_1), .int .i64 a1, .int .i64 a2] rfl (by (try simp only [List.map_toArray, List.map_cons, List.map_nil]); first | done | rfl | (simp only [List.length_drop, List.length_take]; rfl)) ?_; (with_reducible refine (impl_within.calls (rd l0 x11_1) a1 a2 true _ A7.out).mono ?_); rintro e w' ⟨rfl, ⟨nd, rfl⟩⟩; refine ⟨_, rfl, ?_⟩))
              go_roundg k1
              case measure => have := HK1.out; omega
              case rel => exact ⟨(wrap64 (x11_1 + 1)), (by first | rfl | (simp; done) | (simp [*]; done)), H', ⟨by have := HK1.out; omega⟩, by repeat (first | exact Drawn0.refl _ | apply Drawn0.step)⟩
            · replace c8 := Bool.eq_false_iff.mpr c8
              subst c8
              have H1 : (some false) = some r := by rw [if_neg (show ¬ (false = true) by decide)] at H; exact H
              clear H
              have H := H1
              clear H1
              obtain rfl := Option.some.inj H
              have p188 : 0 ≤ (x11_1 : Int) := of_decide_eq_true (by first | (with_reducible assumption) | assumption)
              have q188 : x11_1 < (l0.length : Int) := of_decide_eq_true (by first | (with_reducible assumption) | assumption)
              obtain ⟨ad188, e188, hx188_0⟩ := Kd.at_int HR0.out x11_1 p188 q188
              cases e188
              replace p188 := eq_true p188
              replace q188 := eq_true q188
              go_wp2_with (first | ((with_reducible refine gate_callee (f := 94) rfl ?_); refine goesL_ (some 18) rfl rfl Try.func94 (by kernel_rfl) rfl #[.int .i64 (rd l0 x11_1), .int .i64 a1, .int .i64 a2] rfl (by (try simp only [List.map_toArray, List.map_cons, List.map_nil]); first | done | rfl | (simp only [List.length_drop, List.length_take]; rfl)) ?_; (with_reducible refine (impl_within.calls (rd l0 x11_1) a1 a2 false _ A7.out).mono ?_); rintro e w' ⟨rfl, ⟨nd, rfl⟩⟩; refine ⟨_, rfl, ?_⟩))
              go_ret
              exact ⟨by first | rfl | (simp; done) | (simp [*]; done), by repeat (first | exact Drawn0.refl _ | apply Drawn0.step)⟩
          · rw [if_neg c6] at H
            exact absurd H (by simp)
        · rw [if_neg c5] at H
          exact absurd H (by simp)
      · rw [if_neg c4] at H
        have c4b0 : decide (x11_1 < (l0.length : Int)) = false := decide_eq_false c4
        clear c4
        obtain rfl := Option.some.inj H
        go_wp2
        go_ret
        exact ⟨by first | rfl | (simp; done) | (simp [*]; done), by repeat (first | exact Drawn0.refl _ | apply Drawn0.step)⟩

/-! ### impl_isTable: function 70 -/
def impl_isTable.f (k : Nat) (a0 : Int) (l1 : List Int) : Option (Bool) := (impl_within.f a0 0 4).bind fun t190 => (if t190 = true then (if 0 ≤ a0 then (if (l1.length : Int) = (shl .i64 1 a0) then ((impl_allWithin.f k l1 0 1).bind fun t191 => (some t191)) else (some false)) else (none)) else (some false))
theorem impl_isTable.mono : ∀ a0 a1 k, LeO (impl_isTable.f k a0 a1) (impl_isTable.f (k + 1) a0 a1) := by
  intro a0 a1 k
  unfold impl_isTable.f
  repeat' first
      | (with_reducible exact impl_allWithin.mono _ _ _ _)
      | (with_reducible exact LeO.refl _)
      | (with_reducible exact LeO.none _)
      | (with_reducible refine LeO.ite ?_ ?_)
      | (with_reducible refine LeO.bind ?_ (fun _ => ?_))
      | exact impl_allWithin.mono _ _ _ _
      | exact LeO.none _
      | refine LeO.ite ?_ ?_
      | refine LeO.bind ?_ (fun _ => ?_)
set_option maxHeartbeats 8000000 in
set_option maxRecDepth 100000 in
theorem impl_isTable.calls (k : Nat) (a0 : Int) (A1 : Option Addr) (c1 : Nat) (l1 : List Int) (r : Bool) (w : World) (hr1 : Kd.C (Kd.int .i64) w A1 l1.length l1) (hc1 : l1.length ≤ c1) (h : impl_isTable.f k a0 l1 = some r) :
    Calls Try.prog 70 #[.int .i64 a0, .slice A1 l1.length c1] w fun e w' => e = .returned (.bool r) ∧ Drawn0 w w' := by
  have HR1 := Aside0.mk hr1
  have HC1 := Aside0.mk hc1
  clear hr1 hc1
  have H : ((impl_within.f a0 0 4).bind fun t190 => (if t190 = true then (if 0 ≤ a0 then (if (l1.length : Int) = (shl .i64 1 a0) then ((impl_allWithin.f k l1 0 1).bind fun t191 => (some t191)) else (some false)) else (none)) else (some false))) = some r := h
  clear h
  replace H := Option.bind_eq_some_iff.mp H
  obtain ⟨t190, A30, H⟩ := H
  replace H : (if t190 = true then (if 0 ≤ a0 then (if (l1.length : Int) = (shl .i64 1 a0) then ((impl_allWithin.f k l1 0 1).bind fun t191 => (some t191)) else (some false)) else (none)) else (some false)) = some r := H
  have A3 := Aside0.mk A30
  clear A30
  by_cases c4 : t190 = true
  · subst c4
    have H1 : (if 0 ≤ a0 then (if (l1.length : Int) = (shl .i64 1 a0) then ((impl_allWithin.f k l1 0 1).bind fun t191 => (some t191)) else (some false)) else (none)) = some r := by rw [if_pos rfl] at H; exact H
    clear H
    have H := H1
    clear H1
    by_cases c5 : 0 ≤ a0
    · rw [if_pos c5] at H
      have c5b0 := eq_true c5
      have c5b1 : decide (0 ≤ a0) = true := decide_eq_true c5
      clear c5
      obtain ⟨ji6, hji6⟩ : ∃ j_ : Int, (shl .i64 1 a0) = j_ := ⟨_, rfl⟩
      replace H : (if (l1.length : Int) = (ji6) then ((impl_allWithin.f k l1 0 1).bind fun t191 => (some t191)) else (some false)) = some r := by first | (rw [hji6] at H; exact H) | (simp only [hji6] at H ⊢; exact H)
      (try rw [hji6] at A3)
      have hji6_ : (IntKind.i64.wrap (1 * 2 ^ min a0.toNat 64)) = ji6 := hji6
      have hji6z : a0 ≤ 64 → (IntKind.i64.wrap (1 * 2 ^ a0.toNat)) = ji6 := shl_small hji6
      have hji6u : (IntKind.i64.wrap (2 ^ min a0.toNat 64)) = ji6 := by have h_ := hji6_; rw [Int.one_mul] at h_; exact h_
      have hji6v : a0 ≤ 64 → (IntKind.i64.wrap (2 ^ a0.toNat)) = ji6 := fun hle_ => by have h_ := hji6z hle_; rw [Int.one_mul] at h_; exact h_
      have hji6y : (wrap64 (1 * 2 ^ min a0.toNat 64)) = ji6 := (i64_w _).symm.trans hji6_
      have hji6x : a0 ≤ 64 → (wrap64 (1 * 2 ^ a0.toNat)) = ji6 := fun h_ => (i64_w _).symm.trans (hji6z h_)
      by_cases c7 : (l1.length : Int) = (ji6)
      · rw [if_pos c7] at H
        have c7b0 : ((l1.length : Int) == (ji6)) = true := beq_iff_eq.mpr c7
        have c7b1 : ((l1.length : Int) != (ji6)) = false := bne_eq_false_iff_eq.mpr c7
        clear c7
        replace H := Option.bind_eq_some_iff.mp H
        obtain ⟨t191, A80, H⟩ := H
        replace H : (some t191) = some r := H
        have A8 := Aside0.mk A80
        clear A80
        obtain rfl := Option.some.inj H
        go_enter Try.func70, Try.ntmps70
        go_wp2_with (first | ((with_reducible refine gate_callee (f := 94) rfl ?_); refine goesL_ (some 6) rfl rfl Try.func94 (by kernel_rfl) rfl #[.int .i64 a0, .int .i64 0, .int .i64 4] rfl (by (try simp only [List.map_toArray, List.map_cons, List.map_nil]); first | done | rfl | (simp only [List.length_drop, List.length_take]; rfl)) ?_; (with_reducible refine (impl_within.calls a0 0 4 true _ A3.out).mono ?_); rintro e w' ⟨rfl, ⟨nd, rfl⟩⟩; refine ⟨_, rfl, ?_⟩) | (go_at_call 84; (with_reducible refine (impl_allWithin.calls k _ _ l1 0 1 t191 _ ?side1 ?side2 A8.out).mono ?_); (case side1 => repeat (first | exact HR1.out | (with_reducible refine Kd.C_alloc ?_ _) | (with_reducible refine Kd.C_drewN ?_ _) | (with_reducible refine Kd.C_drew ?_))); (case side2 => exact HC1.out); rintro e w' ⟨rfl, ⟨nd, rfl⟩⟩))
        go_ret
        exact ⟨by first | rfl | (simp; done) | (simp only [← hji6] <;> (first | rfl | simp)) | (simp [*]; done), by repeat (first | exact Drawn0.refl _ | apply Drawn0.step)⟩
      · rw [if_neg c7] at H
        have c7b0 : ((l1.length : Int) == (ji6)) = false := beq_eq_false_iff_ne.mpr c7
        have c7b1 : ((l1.length : Int) != (ji6)) = true := bne_iff_ne.mpr c7
        obtain rfl := Option.some.inj H
        go_enter Try.func70, Try.ntmps70
        go_wp2_with (first | ((with_reducible refine gate_callee (f := 94) rfl ?_); refine goesL_ (some 6) rfl rfl Try.func94 (by kernel_rfl) rfl #[.int .i64 a0, .int .i64 0, .int .i64 4] rfl (by (try simp only [List.map_toArray, List.map_cons, List.map_nil]); first | done | rfl | (simp only [List.length_drop, List.length_take]; rfl)) ?_; (with_reducible refine (impl_within.calls a0 0 4 true _ A3.out).mono ?_); rintro e w' ⟨rfl, ⟨nd, rfl⟩⟩; refine ⟨_, rfl, ?_⟩))
        go_ret
        exact ⟨by first | rfl | (simp; done) | (simp only [← hji6] <;> (first | rfl | simp)) | (simp [*]; done), by repeat (first | exact Drawn0.refl _ | apply Drawn0.step)⟩
    · rw [if_neg c5] at H
      exact absurd H (by simp)
  · replace c4 := Bool.eq_false_iff.mpr c4
    subst c4
    have H1 : (some false) = some r := by rw [if_neg (show ¬ (false = true) by decide)] at H; exact H
    clear H
    have H := H1
    clear H1
    obtain rfl := Option.some.inj H
    go_enter Try.func70, Try.ntmps70
    go_wp2_with (first | ((with_reducible refine gate_callee (f := 94) rfl ?_); refine goesL_ (some 6) rfl rfl Try.func94 (by kernel_rfl) rfl #[.int .i64 a0, .int .i64 0, .int .i64 4] rfl (by (try simp only [List.map_toArray, List.map_cons, List.map_nil]); first | done | rfl | (simp only [List.length_drop, List.length_take]; rfl)) ?_; (with_reducible refine (impl_within.calls a0 0 4 false _ A3.out).mono ?_); rintro e w' ⟨rfl, ⟨nd, rfl⟩⟩; refine ⟨_, rfl, ?_⟩))
    go_ret
    exact ⟨by first | rfl | (simp; done) | (simp [*]; done), by repeat (first | exact Drawn0.refl _ | apply Drawn0.step)⟩

end Go.Proofs.Ythfkgbkhkahmdaa.PFnExactVoteOf
