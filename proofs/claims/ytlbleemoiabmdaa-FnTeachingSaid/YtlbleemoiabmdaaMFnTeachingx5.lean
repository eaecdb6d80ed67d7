-- Laid for this claim by a program of the session's own (wip/tool/myprint.py).
import Derived.Test.YtlbleemoiabmdaaMFnTeachingx0
import Derived.Test.YtlbleemoiabmdaaMFnTeachingx2
import Derived.Test.YtlbleemoiabmdaaMFnTeachingx3
import Derived.Test.YtlbleemoiabmdaaMFnTeachingx4
namespace Go.Proofs.Ytlbleemoiabmdaa.PFnTeaching
open Go.RowKit Go.Proofs.YtlbleemoiabmdaaW.PrintWords Go.Proofs.YtlbleemoiabmdaaW.PrintLast Go.Proofs.YtlbleemoiabmdaaW.PrintMore
attribute [local go_sem] max2_int min2_int max_two min_two max_three min_three max_four min_four
set_option linter.unusedVariables false
set_option linter.unusedSimpArgs false
def impl_teaching.one (k : Nat) (l0 : List (List Int)) (i : Int) (s : List Int) : Option (List Int × List Int) :=
 (impl_copied.f s).bind fun c => (impl_at.f k (rd_L2 l0 i) s).bind fun a => (impl_version.f k l0 s a).bind fun v => some (c, v)
theorem Fr.drew1 (S : Nat → Prop) (W : World) : Fr S W W.drew := Fr.below (eD (Below.refl W.heap.size W))
theorem Fr.set {S : Nat → Prop} {W : World} {g : Nat} (hS : S g) (i : Nat) (v : Value) : Fr S W (W.setCell ⟨g, i, none⟩ v) :=
 ⟨(Below.refl 0 W).setCell (Nat.zero_le _) _, fun j _ hj => Below.heap_setCell W ⟨g, i, none⟩ v j (fun e => hj (by rw [e]; exact hS))⟩
set_option maxHeartbeats 8000000 in
set_option maxRecDepth 100000 in
theorem impl_teaching.visit (k : Nat) (l0 : List (List Int)) (A0 : Option Addr) (c0 : Nat) (i : Int) (s : List Int) (A : Option Addr) (c : Nat) (cc v : List Int) (bo bc bi : Nat) (vo : Value) (W : World) (hi0 : 0 ≤ i) (hi1 : i < l0.length)
  (hbo : W.heap[bo]? = some (.cells #[vo] 27 (0, 0))) (hbc : W.heap[bc]? = some (.cells #[.slice A0 l0.length c0] 24 (0, 0))) (hbi : W.heap[bi]? = some (.cells #[.int .i64 i] 3 (0, 0)))
  (hcl : ∀ W', Fr (fun x => x = bo) W W' → Kd.C (Kd.slice 3 (Kd.int .i64)) W' A0 l0.length l0) (hc0 : l0.length ≤ c0) (hs : Ft (fun x => x = bo) W A s) (hsc : s.length ≤ c) (h : impl_teaching.one k l0 i s = some (cc, v)) :
  Calls Try.prog 84 #[.slice A s.length c, .pointer (some ⟨bo, 0, none⟩), .pointer (some ⟨bc, 0, none⟩), .pointer (some ⟨bi, 0, none⟩)] W fun e W' => e = .returned (.bool ((v.length : Int) == 1)) ∧ (∃ vo' : Value, W'.heap[bo]? = some (.cells #[vo'] 27 (0, 0)) ∧ Kd.R (Kd.int .i64) 3 W' W.heap.size (fun x => x ≠ bo) vo' cc) ∧ Fr (fun x => x = bo) W W' := by
 unfold impl_teaching.one at h
 obtain ⟨c1, hcp, h⟩ := oB.mp h
 obtain ⟨a, hat, h⟩ := oB.mp h
 obtain ⟨v1, hve, h⟩ := oB.mp h
 simp only [Option.some.injEq, Prod.mk.injEq] at h
 obtain ⟨rfl, rfl⟩ := h
 have HCP := aM hcp
 have HAT := aM hat
 have HVE := aM hve
 have HCL := aM hcl
 have HC0 := aM hc0
 have HFS := aM hs
 have HSC := aM hsc
 have HBO := aM hbo
 have HBC := aM hbc
 have HBI := aM hbi
 have HIL := aM hi1
 have hne1 : bc ≠ bo := blk_ne hbc hbo (by decide)
 have hne2 : bi ≠ bo := blk_ne hbi hbo (by decide)
 have HNE := aM (And.intro hne1 hne2)
 clear hcp hat hve hcl hc0 hs hsc hbo hbc hbi hne1 hne2
 go_enter Try.func84, Try.ntmps84
 go_wp2_with (first | (go_at_call 85; (with_reducible refine (impl_copied.calls _ _ s c1 _ HFS.out.now HSC.out HCP.out).mono ?_); rintro e w1 ⟨vc, rfl, hcr, hb⟩; obtain ⟨Ac, cc1, rfl⟩ := Kd.R_slice hcr; have n0_ := aM (hb.block bo (blk_lt HBO.out) |>.trans HBO.out); have n1_ := aM (hb.block bc (blk_lt HBC.out) |>.trans HBC.out); have n2_ := aM (hb.block bi (blk_lt HBI.out) |>.trans HBI.out); have n3_ := aM (rM (ok' := fun x => x ≠ bo) (Kd.R_bound hcr) (fun x hx => by have := blk_lt HBO.out; have := hx.2.1; omega)); have HF := aM (Fr.below (S := fun x => x = bo) hb); clear HBO HBC HBI hcr hb; have HBO := n0_; have HBC := n1_; have HBI := n2_; have HR := n3_; clear n0_ n1_ n2_ n3_; have hob0 := (bC HBO.out 0).trans (show _ = some vo from rfl); have hfb0 := bF HBO.out 0))
 clear hob0 hfb0
 have n0_ := aM (blk_put HBO.out 0 (.slice Ac c1.length cc1) rfl)
 have n1_ := aM (blk_far HBC.out HNE.out.1 (p := ⟨bo, 0, none⟩) (.slice Ac c1.length cc1))
 have n2_ := aM (blk_far HBI.out HNE.out.2 (p := ⟨bo, 0, none⟩) (.slice Ac c1.length cc1))
 have n3_ := aM (Kd.R_far (p := ⟨bo, 0, none⟩) HR.out (fun _ hk => hk) (.slice Ac c1.length cc1))
 have n4_ := aM (HF.out.trans (Fr.set (S := fun x => x = bo) rfl 0 (.slice Ac c1.length cc1)))
 clear HBO HBC HBI HR HF
 have HBO := n0_
 have HBC := n1_
 have HBI := n2_
 have HR := n3_
 have HF := n4_
 clear n0_ n1_ n2_ n3_ n4_
 obtain ⟨ad, Ar, cr, e, hrw, hrl, hrc⟩ := at_L2 (HCL.out _ HF.out) i hi0 hi1
 cases e
 have HRW := aM hrw
 have HRL := aM hrl
 have HRC := aM hrc
 clear hrw hrl hrc
 have hd1 : decide (0 ≤ i) = true := decide_eq_true hi0
 have hd2 : decide (i < (l0.length : Int)) = true := decide_eq_true hi1
 refine start_ (n := 12) (S := fun w' => w'.cell? ⟨bc, 0, none⟩ = some (.slice (some ad) l0.length c0) ∧ w'.cell? ⟨bi, 0, none⟩ = some (.int .i64 i) ∧ w'.cell? (ad.add i.toNat) = some (.slice Ar (rd_L2 l0 i).length cr)) (ds := []) #[false, false, false, false, false, false, false, false, false, false, false, false] (by kernel_rfl) rfl rfl ⟨(bC HBC.out 0).trans rfl, (bC HBI.out 0).trans rfl, HRW.out⟩ (fun hHeld => ?_)
 refine pure_ (i := 1) (N := some 9) (v := ?_) (a' := ?_) #[false, true, false, false, false, false, false, false, false, false, false, false] rfl rfl (by kernel_rfl) (fun _ _ _ h => h) (Or.inl ⟨by rfl, ?_⟩) ?_ ?_
 rotate_left
 ·
  intro w'
  go_simp
  with_reducible rfl
 rotate_left
 ·
  simp only [Act.put, sA, sZ, sU, i64_w, i32_w]
  rfl
 refine pure_ (i := 6) (N := some 14) (v := ?_) (a' := ?_) #[false, true, false, false, false, false, true, false, false, false, false, false] rfl rfl (by kernel_rfl) (fun _ _ _ h => h) (Or.inl ⟨by rfl, ?_⟩) ?_ ?_
 rotate_left
 ·
  intro w'
  go_simp
  with_reducible rfl
 rotate_left
 ·
  simp only [Act.put, sA, sZ, sU, i64_w, i32_w]
  rfl
 refine take_ (i := 0) (N := some 8) (v := ?_) (a' := ?_) #[true, true, false, false, false, false, true, false, false, false, false, false] rfl rfl (by kernel_rfl) (fun _ _ _ h => h) (Or.inl ⟨by rfl, ?_⟩) hHeld ?_ ?_
 rotate_left
 ·
  rintro w' ⟨s0, s1, s2⟩
  first | (go_simp; with_reducible rfl) | (simp only [add_plain] at s0 s1 s2; go_simp; with_reducible rfl)
 rotate_left
 ·
  simp only [Act.put, sA, sZ, sU, i64_w, i32_w]
  rfl
 refine take_ (i := 2) (N := some 10) (v := ?_) (a' := ?_) #[true, true, true, false, false, false, true, false, false, false, false, false] rfl rfl (by kernel_rfl) (fun _ _ _ h => h) (Or.inl ⟨by rfl, ?_⟩) hHeld ?_ ?_
 rotate_left
 ·
  rintro w' ⟨s0, s1, s2⟩
  first | (go_simp; with_reducible rfl) | (simp only [add_plain] at s0 s1 s2; go_simp; with_reducible rfl)
 rotate_left
 ·
  simp only [Act.put, sA, sZ, sU, i64_w, i32_w]
  rfl
 refine take_ (i := 3) (N := some 11) (v := ?_) (a' := ?_) #[true, true, true, true, false, false, true, false, false, false, false, false] rfl rfl (by kernel_rfl) (fun _ _ _ h => h) (Or.inl ⟨by rfl, ?_⟩) hHeld ?_ ?_
 rotate_left
 ·
  rintro w' ⟨s0, s1, s2⟩
  first | (go_simp; with_reducible rfl) | (simp only [add_plain] at s0 s1 s2; go_simp; with_reducible rfl)
 rotate_left
 ·
  simp only [Act.put, sA, sZ, sU, i64_w, i32_w]
  rfl
 refine pure_ (i := 4) (N := some 12) (v := ?_) (a' := ?_) #[true, true, true, true, true, false, true, false, false, false, false, false] rfl rfl (by kernel_rfl) (fun _ _ _ h => h) (Or.inl ⟨by rfl, ?_⟩) ?_ ?_
 rotate_left
 ·
  intro w'
  go_simp
  with_reducible rfl
 rotate_left
 ·
  simp only [Act.put, sA, sZ, sU, i64_w, i32_w]
  rfl
 refine take_ (i := 5) (N := some 13) (v := ?_) (a' := ?_) #[true, true, true, true, true, true, true, false, false, false, false, false] rfl rfl (by kernel_rfl) (fun _ _ _ h => h) (Or.inl ⟨by rfl, ?_⟩) hHeld ?_ ?_
 rotate_left
 ·
  rintro w' ⟨s0, s1, s2⟩
  first | (go_simp; with_reducible rfl) | (simp only [add_plain] at s0 s1 s2; go_simp; with_reducible rfl)
 rotate_left
 ·
  simp only [Act.put, sA, sZ, sU, i64_w, i32_w]
  rfl
 refine one_ (i := 7) (N := some 15) #[true, true, true, true, true, true, true, true, false, false, false, false] rfl rfl (by kernel_rfl) (by decide) (fun K hK => ?_)
 refine goes_ Try.func86 (by kernel_rfl) rfl #[.slice Ar (rd_L2 l0 i).length cr, .slice A s.length c] (by rfl) rfl rfl (by simp only [List.map_toArray, List.map_cons, List.map_nil]; rfl) ?_
 with_reducible refine (impl_at.calls k _ _ (rd_L2 l0 i) _ _ s a _ ?side1 ?side2 ?side3 ?side4 HAT.out).mono ?_
 (case side1 => exact HRC.out)
 (case side2 => exact HRL.out)
 (case side3 => exact (HFS.out.move HF.out).now)
 (case side4 => exact HSC.out)
 rintro e w4 ⟨va, rfl, hpa, hb⟩
 refine ⟨_, rfl, ?_⟩
 obtain ⟨Aa, ca, rfl, hla, hca⟩ := Kd.R_reads hpa
 have HLA := aM hla
 have HCA := aM hca
 have n0_ := aM ((hb.block bc (blk_lt HBC.out)).trans HBC.out)
 have n1_ := aM ((hb.block bi (blk_lt HBI.out)).trans HBI.out)
 have n2_ := aM ((hb.block bo (blk_lt HBO.out)).trans HBO.out)
 have n3_ := aM ((hb.cell (World.block_lt_of_cell? _ _ HRW.out)).trans HRW.out)
 have n4_ := aM (HF.out.trans ((Fr.drew1 (fun x => x = bo) _).trans (Fr.below (S := fun x => x = bo) hb)))
 have n5_ := aM (Kd.R_below (rD HR.out) hb)
 clear hb hpa hla hca HBC HBI HBO HRW HF HR HRC
 have HBC := n0_
 have HBI := n1_
 have HBO := n2_
 have HRW := n3_
 have HF := n4_
 have HR := n5_
 clear n0_ n1_ n2_ n3_ n4_ n5_
 refine hK.out _ _ ⟨(bC HBC.out 0).trans rfl, (bC HBI.out 0).trans rfl, HRW.out⟩ (fun hHeld => ?_)
 clear hK K
 refine norm_ (a' := ?_) ?_ ?_
 rotate_left
 ·
  show Act.put _ (some 15) _ = _
  simp only [Act.put, sA, sZ, sU, i64_w, i32_w]
  rfl
 refine one_ (i := 8) (N := some 16) #[true, true, true, true, true, true, true, true, true, false, false, false] rfl rfl (by kernel_rfl) (by decide) (fun K hK => ?_)
 refine goes_ Try.func51 (by kernel_rfl) rfl #[.slice (some ad) l0.length c0, .slice A s.length c, .slice Aa a.length ca] (by rfl) rfl rfl (by simp only [List.map_toArray, List.map_cons, List.map_nil]; rfl) ?_
 with_reducible refine (impl_version.calls k _ _ l0 _ _ s _ _ a v1 _ ?side1 ?side2 ?side3 ?side4 ?side5 ?side6 HVE.out).mono ?_
 (case side1 => exact HCL.out _ HF.out)
 (case side2 => exact HC0.out)
 (case side3 => exact (HFS.out.move HF.out).now)
 (case side4 => exact HSC.out)
 (case side5 => exact HCA.out)
 (case side6 => exact HLA.out)
 rintro e w5 ⟨vv, rfl, hpv, hb⟩
 refine ⟨_, rfl, ?_⟩
 obtain ⟨Av, cv, rfl⟩ := Kd.R_slice hpv
 have n0_ := aM ((hb.block bc (blk_lt HBC.out)).trans HBC.out)
 have n1_ := aM ((hb.block bi (blk_lt HBI.out)).trans HBI.out)
 have n2_ := aM ((hb.block bo (blk_lt HBO.out)).trans HBO.out)
 have n3_ := aM ((hb.cell (World.block_lt_of_cell? _ _ HRW.out)).trans HRW.out)
 have n4_ := aM (HF.out.trans (Fr.below (S := fun x => x = bo) hb))
 have n5_ := aM (Kd.R_below HR.out hb)
 clear hb hpv HBC HBI HBO HRW HF HR HCA
 have HBC := n0_
 have HBI := n1_
 have HBO := n2_
 have HRW := n3_
 have HF := n4_
 have HR := n5_
 clear n0_ n1_ n2_ n3_ n4_ n5_
 refine hK.out _ _ ⟨(bC HBC.out 0).trans rfl, (bC HBI.out 0).trans rfl, HRW.out⟩ (fun hHeld => ?_)
 clear hK K
 refine norm_ (a' := ?_) ?_ ?_
 rotate_left
 ·
  show Act.put _ (some 16) _ = _
  simp only [Act.put, sA, sZ, sU, i64_w, i32_w]
  rfl
 refine pure_ (i := 9) (N := some 17) (v := ?_) (a' := ?_) #[true, true, true, true, true, true, true, true, true, true, false, false] rfl rfl (by kernel_rfl) (fun _ _ _ h => h) (Or.inl ⟨by rfl, ?_⟩) ?_ ?_
 rotate_left
 ·
  intro w'
  go_simp
  with_reducible rfl
 rotate_left
 ·
  simp only [Act.put, sA, sZ, sU, i64_w, i32_w]
  rfl
 refine pure_ (i := 10) (N := some 18) (v := ?_) (a' := ?_) #[true, true, true, true, true, true, true, true, true, true, true, false] rfl rfl (by kernel_rfl) (fun _ _ _ h => h) (Or.inl ⟨by rfl, ?_⟩) ?_ ?_
 rotate_left
 ·
  intro w'
  go_simp
  with_reducible rfl
 rotate_left
 ·
  simp only [Act.put, sA, sZ, sU, i64_w, i32_w]
  rfl
 refine pure_ (i := 11) (N := some 5) (v := ?_) (a' := ?_) #[true, true, true, true, true, true, true, true, true, true, true, true] rfl rfl (by kernel_rfl) (fun _ _ _ h => h) (Or.inl ⟨by rfl, ?_⟩) ?_ ?_
 rotate_left
 ·
  intro w'
  go_simp
  with_reducible rfl
 rotate_left
 ·
  simp only [Act.put, sA, sZ, sU, i64_w, i32_w]
  rfl
 refine done_ (by kernel_rfl) ?_
 go_wp2
 go_ret
 exact ⟨rfl, ⟨_, HBO.out, HR.out⟩, HF.out⟩
def impl_teaching.p (k : Nat) (l0 : List (List Int)) (i : Int) (s : List Int) : Bool := ((impl_teaching.one k l0 i s).map fun x => ((x.2.length : Int) == 1)).getD false
def impl_teaching.out (k : Nat) (l0 : List (List Int)) (i : Int) (ds : List (List Int)) : List Int := ((ds.getLast?.bind (impl_teaching.one k l0 i)).map fun x => x.1).getD []
def impl_teaching.sets (m : Nat) : List (List Int) := (List.range (m + 1)).flatMap fun r => cmbs m r 0
def impl_teaching.f (k : Nat) (l0 : List (List Int)) (i : Int) : Option (List Int) :=
 if 0 ≤ i ∧ i < l0.length ∧ (rd_L2 l0 0).length ≤ 20 ∧ (∀ s ∈ impl_teaching.sets (rd_L2 l0 0).length, (impl_teaching.one k l0 i s).isSome = true) then some (impl_teaching.out k l0 i (uptoT (impl_teaching.p k l0 i) (impl_teaching.sets (rd_L2 l0 0).length))) else none
theorem impl_teaching.one_mono (k : Nat) (l0 : List (List Int)) (i : Int) (s : List Int) : LeO (impl_teaching.one k l0 i s) (impl_teaching.one (k + 1) l0 i s) :=
 LeO.bind (LeO.refl _) fun _ => LeO.bind (impl_at.mono _ _ _) fun _ => LeO.bind (impl_version.mono _ _ _ _) fun _ => LeO.refl _
theorem uptoT_congr (p q : List Int → Bool) : ∀ A : List (List Int), (∀ x ∈ A, p x = q x) → uptoT p A = uptoT q A := by
 intro A
 induction A with
 | nil => intro _; rfl
 | cons x A ih =>
  intro h
  simp only [uptoT]
  rw [h x (by simp), ih fun y hy => h y (by simp [hy])]
theorem uptoT_sub (p : List Int → Bool) : ∀ A : List (List Int), ∀ x ∈ uptoT p A, x ∈ A := by
 intro A
 induction A with
 | nil => intro x h; simp [uptoT] at h
 | cons y A ih =>
  intro x h
  simp only [uptoT] at h
  split at h
  ·
   simp at h; simp [h]
  ·
   rcases List.mem_cons.1 h with h | h
   ·
    simp [h]
   ·
    simp [ih x h]
theorem impl_teaching.mono : ∀ a0 a1 k, LeO (impl_teaching.f k a0 a1) (impl_teaching.f (k + 1) a0 a1) := by
 intro l0 i k r h
 unfold impl_teaching.f at h ⊢
 by_cases c : 0 ≤ i ∧ i < l0.length ∧ (rd_L2 l0 0).length ≤ 20 ∧ (∀ s ∈ impl_teaching.sets (rd_L2 l0 0).length, (impl_teaching.one k l0 i s).isSome = true)
 ·
  rw [if_pos c] at h
  have he : ∀ s ∈ impl_teaching.sets (rd_L2 l0 0).length, impl_teaching.one (k + 1) l0 i s = impl_teaching.one k l0 i s := fun s hs => by
   obtain ⟨x, hx⟩ := Option.isSome_iff_exists.1 (c.2.2.2 s hs)
   rw [hx, impl_teaching.one_mono k l0 i s x hx]
  rw [if_pos ⟨c.1, c.2.1, c.2.2.1, fun s hs => by rw [he s hs]; exact c.2.2.2 s hs⟩, ← h]
  have e1 := uptoT_congr (impl_teaching.p (k + 1) l0 i) (impl_teaching.p k l0 i) (impl_teaching.sets (rd_L2 l0 0).length) fun s hs => by unfold impl_teaching.p; rw [he s hs]
  rw [e1]
  unfold impl_teaching.out
  cases e : (uptoT (impl_teaching.p k l0 i) (impl_teaching.sets (rd_L2 l0 0).length)).getLast? with
  | none => rfl
  | some s => rw [Option.bind_some, Option.bind_some, he s (uptoT_sub _ _ s (List.mem_of_getLast? e))]
 ·
  rw [if_neg c] at h; cases h
def impl_teaching.Inv (k : Nat) (l0 : List (List Int)) (A0 : Option Addr) (c0 : Nat) (i : Int) (w : World) (bo bc bi : Nat) (ds : List (List Int)) (W : World) : Prop :=
 (∃ vo : Value, W.heap[bo]? = some (.cells #[vo] 27 (0, 0)) ∧ Kd.R (Kd.int .i64) 3 W w.heap.size (fun x => x ≠ bo) vo (impl_teaching.out k l0 i ds)) ∧ W.heap[bc]? = some (.cells #[.slice A0 l0.length c0] 24 (0, 0)) ∧ W.heap[bi]? = some (.cells #[.int .i64 i] 3 (0, 0)) ∧ Below w.heap.size w W
theorem impl_teaching.steps (k : Nat) (l0 : List (List Int)) (A0 : Option Addr) (c0 : Nat) (i : Int) (w : World) (bo bc bi : Nat) (hi0 : 0 ≤ i) (hi1 : i < l0.length) (hb1 : w.heap.size ≤ bo) (hC : Kd.C (Kd.slice 3 (Kd.int .i64)) w A0 l0.length l0) (hc0 : l0.length ≤ c0) (m r : Nat) (hm : m ≤ 20) (hr : r ≤ m)
  (ho : ∀ s ∈ impl_teaching.sets m, (impl_teaching.one k l0 i s).isSome = true) (w1 : World) (hbo1 : bo < w1.heap.size) (ds : List (List Int)) (h : impl_teaching.Inv k l0 A0 c0 i w bo bc bi ds w1) :
  Calls Try.prog 83 #[.int .i64 (m : Int), .int .i64 (r : Int), .func (.func 84) #[] #[.pointer (some ⟨bo, 0, none⟩), .pointer (some ⟨bc, 0, none⟩), .pointer (some ⟨bi, 0, none⟩)]] w1 fun e W' =>
   e = .returned (.bool ((cmbs m r 0).any (impl_teaching.p k l0 i))) ∧ impl_teaching.Inv k l0 A0 c0 i w bo bc bi (ds ++ uptoT (impl_teaching.p k l0 i) (cmbs m r 0)) W' ∧ Fr (fun x => x = bo) w1 W' := by
 refine choices_calls m r (by omega) (by omega) 84 Try.f84 Try.func84 (by kernel_rfl) rfl _ (impl_teaching.p k l0 i) w1 (fun x => x = bo) (fun x hx => by rw [hx]; exact hbo1) (fun es W => impl_teaching.Inv k l0 A0 c0 i w bo bc bi (ds ++ es) W) ?_ (by rw [List.append_nil]; exact h) ?_
 ·
  rintro es W W' ⟨⟨vo, i1, i2⟩, i3, i4, i5⟩ hb
  exact ⟨⟨vo, (hb.block bo (blk_lt i1)).trans i1, Kd.R_below i2 hb⟩, (hb.block bc (blk_lt i3)).trans i3, (hb.block bi (blk_lt i4)).trans i4, below_step i5 hb⟩
 ·
  rintro s hs es W A c ⟨⟨vo, i1, i2⟩, i3, i4, i5⟩ hft hsc hB
  have hmem : s ∈ impl_teaching.sets m := List.mem_flatMap.2 ⟨r, List.mem_range.2 (by omega), hs⟩
  obtain ⟨⟨cc, v⟩, hx⟩ := Option.isSome_iff_exists.1 (ho s hmem)
  refine (impl_teaching.visit k l0 A0 c0 i s A c cc v bo bc bi vo W hi0 hi1 i1 i3 i4 (fun W' hf => Kd.C_below hC (hf.onto i5 (fun x hx => by rw [hx]; exact hb1))) hc0 hft hsc hx).mono ?_
  rintro e W' ⟨rfl, ⟨vo', j1, j2⟩, j3⟩
  have n1 : bc ≠ bo := blk_ne i3 i1 (by decide)
  have n2 : bi ≠ bo := blk_ne i4 i1 (by decide)
  refine ⟨by simp [impl_teaching.p, hx], ⟨⟨vo', j1, ?_⟩, j3.blk i3 n1, j3.blk i4 n2, j3.onto i5 (fun x hx => by rw [hx]; exact hb1)⟩, j3⟩
  have e1 : impl_teaching.out k l0 i (ds ++ (es ++ [s])) = cc := by
   unfold impl_teaching.out
   rw [← List.append_assoc, List.getLast?_append]
   simp [hx]
  rw [e1]
  exact Kd.R_lower j2 i5.size
theorem impl_teaching.split (m j : Nat) (h : j ≤ m) : ∃ rest, impl_teaching.sets m = ((List.range j).flatMap fun r => cmbs m r 0) ++ (cmbs m j 0 ++ rest) := by
 refine ⟨(List.range' (j + 1) (m - j)).flatMap fun r => cmbs m r 0, ?_⟩
 have e : List.range (m + 1) = List.range j ++ (j :: List.range' (j + 1) (m - j)) := by
  have h2 := List.range'_append_1 (s := 0) (m := j) (n := m - j + 1)
  rw [Nat.zero_add, List.range'_succ] at h2
  rw [List.range_eq_range', List.range_eq_range', h2]
  congr 1; omega
 unfold impl_teaching.sets
 rw [e, List.flatMap_append, List.flatMap_cons]
set_option maxHeartbeats 8000000 in
set_option maxRecDepth 100000 in
theorem impl_teaching.calls (k : Nat) (A0 : Option Addr) (c0 : Nat) (l0 : List (List Int)) (a1 : Int) (r : List Int) (w : World) (hr0 : Kd.C (Kd.slice 3 (Kd.int .i64)) w A0 l0.length l0) (hc0 : l0.length ≤ c0) (h : impl_teaching.f k l0 a1 = some r) :
  Calls Try.prog 44 #[.slice A0 l0.length c0, .int .i64 a1] w fun e w' => ∃ v0_ : Value, e = .returned (v0_) ∧ Kd.R (Kd.int .i64) 3 w' w.heap.size (fun _ => True) v0_ r ∧ Below w.heap.size w w' := by
 unfold impl_teaching.f at h
 by_cases c : 0 ≤ a1 ∧ a1 < l0.length ∧ (rd_L2 l0 0).length ≤ 20 ∧ (∀ s ∈ impl_teaching.sets (rd_L2 l0 0).length, (impl_teaching.one k l0 a1 s).isSome = true)
 ·
  rw [if_pos c] at h
  obtain ⟨hi0, hi1, hm, ho⟩ := c
  have HRES := aM (Option.some.inj h)
  obtain ⟨ad, Ar, cr, e, hrw, hrl, hrc⟩ := at_L2 hr0 0 (Int.le_refl 0) (Int.lt_of_le_of_lt hi0 hi1)
  cases e
  have e0 : ad.add (0 : Int).toNat = ad := by simp [Addr.add]
  rw [e0] at hrw
  have HRL := aM hrl
  have HRW0 := aM hrw
  have HADL := aM (World.block_lt_of_cell? w _ hrw)
  have HC := aM hr0
  have HC0 := aM hc0
  have HI := aM (And.intro hi0 hi1)
  have HM := aM hm
  have HO := aM ho
  have hd0 : decide (0 < l0.length) = true := decide_eq_true (by omega)
  have hd1 : decide ((0 : Int) < (l0.length : Int)) = true := decide_eq_true (by omega)
  have hd2 : 0 < l0.length := by omega
  clear h hrw hrl hrc e0 hr0 hc0 hi0 hi1 hm ho
  generalize hM : rd_L2 l0 0 = row0 at HRL HRW0 HM HO HRES
  go_enter Try.func44, Try.ntmps44
  go_wp2
  have hb2 := eA (eA (Below.refl w.heap.size w) (.cells #[.slice (some ad) l0.length c0] 24)) (.cells #[.int .i64 a1] 3)
  have HGC := aM (bD (bA (blk_new w (.cells #[.slice (some ad) l0.length c0] 24)) (.cells #[.int .i64 a1] 3)))
  have HGI := aM (bD (show ((w.alloc (.cells #[.slice (some ad) l0.length c0] 24)).alloc (.cells #[.int .i64 a1] 3)).heap[w.heap.size + 1]? = some (.cells #[.int .i64 a1] 3 (0, 0)) by simpa using blk_new (w.alloc (.cells #[.slice (some ad) l0.length c0] 24)) (.cells #[.int .i64 a1] 3)))
  have HB := aM (eD hb2)
  have HRW := aM (((eD hb2).cell HADL.out).trans HRW0.out)
  clear hb2
  generalize (w.alloc (.cells #[.slice (some ad) l0.length c0] 24)).alloc (.cells #[.int .i64 a1] 3) = w2 at HGC HGI HB HRW ⊢
  refine start_ (n := 8) (S := fun w' => w'.cell? ⟨w.heap.size, 0, none⟩ = some (.slice (some ad) l0.length c0) ∧ w'.cell? ad = some (.slice Ar (row0).length cr)) (ds := []) #[false, false, false, false, false, false, false, false] (by kernel_rfl) rfl rfl ⟨(bC HGC.out 0).trans rfl, HRW.out⟩ (fun hHeld => ?_)
  generalize w2.drew = w3 at HGC HGI HRW HB hHeld ⊢
  refine take_ (i := 1) (N := some 9) (v := ?_) (a' := ?_) #[false, true, false, false, false, false, false, false] rfl rfl (by kernel_rfl) (fun _ _ _ h => h) (Or.inl ⟨by rfl, ?_⟩) hHeld ?_ ?_
  rotate_left
  ·
   rintro w' ⟨s0, s1⟩
   first | (go_simp; with_reducible rfl) | (simp only [add_plain] at s0 s1; go_simp; with_reducible rfl)
  rotate_left
  ·
   simp only [Act.put, sA, sZ, sU, i64_w, i32_w]
   rfl
  refine pure_ (i := 2) (N := some 10) (v := ?_) (a' := ?_) #[false, true, true, false, false, false, false, false] rfl rfl (by kernel_rfl) (fun _ _ _ h => h) (Or.inl ⟨by rfl, ?_⟩) ?_ ?_
  rotate_left
  ·
   intro w'
   go_simp
   with_reducible rfl
  rotate_left
  ·
   simp only [Act.put, sA, sZ, sU, i64_w, i32_w]
   rfl
  refine take_ (i := 3) (N := some 11) (v := ?_) (a' := ?_) #[false, true, true, true, false, false, false, false] rfl rfl (by kernel_rfl) (fun _ _ _ h => h) (Or.inl ⟨by rfl, ?_⟩) hHeld ?_ ?_
  rotate_left
  ·
   rintro w' ⟨s0, s1⟩
   first | (go_simp; with_reducible rfl) | (simp only [add_plain] at s0 s1; go_simp; with_reducible rfl)
  rotate_left
  ·
   simp only [Act.put, sA, sZ, sU, i64_w, i32_w]
   rfl
  refine pure_ (i := 4) (N := some 12) (v := ?_) (a' := ?_) #[false, true, true, true, true, false, false, false] rfl rfl (by kernel_rfl) (fun _ _ _ h => h) (Or.inl ⟨by rfl, ?_⟩) ?_ ?_
  rotate_left
  ·
   intro w'
   go_simp
   with_reducible rfl
  rotate_left
  ·
   simp only [Act.put, sA, sZ, sU, i64_w, i32_w]
   rfl
  refine join_ (σ := Nat × Nat) 2 #[true, true, true, true, true, true, false, false] (fun s => [(8, .slice (some ⟨s.2, 0, none⟩) 0 0), (5, .pointer (some ⟨s.1, 0, none⟩))]) (fun s w' => w'.heap[s.1]? = some (.cells #[.slice none 0 0] 27 (0, 0)) ∧ w'.heap[s.2]? = some (.cells #[] 3 (0, 0)) ∧ w3.heap.size ≤ s.1 ∧ w3.heap.size ≤ s.2 ∧ s.1 ≠ s.2 ∧ Below w3.heap.size w3 w') ?_ ?_
  rotate_left
  ·
   intro hCont
   refine two_ (i := 0) (j := 5) (Ni := some 8) (Nj := some 5) #[true, true, true, true, true, false, false, false] #[false, true, true, true, true, true, false, false] rfl rfl rfl rfl (by kernel_rfl) (by decide) (by decide) (fun K hK => ?_) (fun K hK => ?_)
   ·
    skip
    refine value_ (w1 := ?_) (v := ?_) (by rfl) rfl ?_ ?_
    rotate_left 2
    ·
     go_simp
     constructor
     ·
      rfl
     ·
      rfl
    refine hK.out _ _ ⟨(bC (((eA (Below.refl w3.heap.size w3) _).block w.heap.size (blk_lt HGC.out)).trans HGC.out) 0).trans rfl, ((eA (Below.refl w3.heap.size w3) _).cell (World.block_lt_of_cell? w3 _ HRW.out)).trans HRW.out⟩ (fun hHeld => ?_)
    clear hK K
    refine norm_ (a' := ?_) ?_ ?_
    rotate_left
    ·
     show Act.put _ (some 8) _ = _
     simp only [Act.put, sA, sZ, sU, i64_w, i32_w]
     rfl
    refine one_ (i := 5) (N := some 5) #[true, true, true, true, true, true, false, false] rfl rfl (by kernel_rfl) (by decide) (fun K hK => ?_)
    refine value_ (w1 := ?_) (v := ?_) (by rfl) rfl ?_ ?_
    rotate_left 2
    ·
     go_simp
     constructor
     ·
      rfl
     ·
      rfl
    refine hK.out _ _ ⟨(bC (((eA (eA (Below.refl w3.heap.size w3) _) _).block w.heap.size (blk_lt HGC.out)).trans HGC.out) 0).trans rfl, ((eA (eA (Below.refl w3.heap.size w3) _) _).cell (World.block_lt_of_cell? w3 _ HRW.out)).trans HRW.out⟩ (fun hHeld => ?_)
    clear hK K
    refine norm_ (a' := ?_) ?_ ?_
    rotate_left
    ·
     show Act.put _ (some 5) _ = _
     simp only [Act.put, sA, sZ, sU, i64_w, i32_w]
     rfl
    exact norm_ (by simp only [putAll, Act.put, sA, sZ, sU]) (hCont (w3.heap.size + 1, w3.heap.size) _ ⟨by simpa using blk_new (w3.alloc _) _, bA (blk_new w3 _) _, by simp, by simp, by simp, (eA (eA (Below.refl w3.heap.size w3) _) _)⟩)
   ·
    skip
    refine value_ (w1 := ?_) (v := ?_) (by rfl) rfl ?_ ?_
    rotate_left 2
    ·
     go_simp
     constructor
     ·
      rfl
     ·
      rfl
    refine hK.out _ _ ⟨(bC (((eA (Below.refl w3.heap.size w3) _).block w.heap.size (blk_lt HGC.out)).trans HGC.out) 0).trans rfl, ((eA (Below.refl w3.heap.size w3) _).cell (World.block_lt_of_cell? w3 _ HRW.out)).trans HRW.out⟩ (fun hHeld => ?_)
    clear hK K
    refine norm_ (a' := ?_) ?_ ?_
    rotate_left
    ·
     show Act.put _ (some 5) _ = _
     simp only [Act.put, sA, sZ, sU, i64_w, i32_w]
     rfl
    refine one_ (i := 0) (N := some 8) #[true, true, true, true, true, true, false, false] rfl rfl (by kernel_rfl) (by decide) (fun K hK => ?_)
    refine value_ (w1 := ?_) (v := ?_) (by rfl) rfl ?_ ?_
    rotate_left 2
    ·
     go_simp
     constructor
     ·
      rfl
     ·
      rfl
    refine hK.out _ _ ⟨(bC (((eA (eA (Below.refl w3.heap.size w3) _) _).block w.heap.size (blk_lt HGC.out)).trans HGC.out) 0).trans rfl, ((eA (eA (Below.refl w3.heap.size w3) _) _).cell (World.block_lt_of_cell? w3 _ HRW.out)).trans HRW.out⟩ (fun hHeld => ?_)
    clear hK K
    refine norm_ (a' := ?_) ?_ ?_
    rotate_left
    ·
     show Act.put _ (some 8) _ = _
     simp only [Act.put, sA, sZ, sU, i64_w, i32_w]
     rfl
    exact norm_ (by simp only [putAll, Act.put, sA, sZ, sU]) (hCont (w3.heap.size, w3.heap.size + 1) _ ⟨bA (blk_new w3 _) _, by simpa using blk_new (w3.alloc _) _, by simp, by simp, by simp, (eA (eA (Below.refl w3.heap.size w3) _) _)⟩)
  rintro ⟨bo, be⟩ w4 ⟨f1, f2, f3, f4, f5, f6⟩
  dsimp only at f1 f2 f3 f4 f5
  have HBO := aM f1
  have HBE := aM f2
  have HB4 := aM (below_step HB.out f6)
  have HGC4 := aM ((f6.block w.heap.size (blk_lt HGC.out)).trans HGC.out)
  have HGI4 := aM ((f6.block (w.heap.size + 1) (blk_lt HGI.out)).trans HGI.out)
  have HRW4 := aM ((f6.cell (World.block_lt_of_cell? w3 _ HRW.out)).trans HRW.out)
  have HOE := aM f5
  have hle := f6.size
  have hbo1 : w.heap.size ≤ bo := Nat.le_trans (below_size HB.out) f3
  have hbe1 : w.heap.size ≤ be := Nat.le_trans (below_size HB.out) f4
  have hgc : w.heap.size ≠ bo := blk_ne HGC4.out HBO.out (by decide)
  have hgi : w.heap.size + 1 ≠ bo := blk_ne HGI4.out HBO.out (by decide)
  have HN := aM (And.intro hbo1 (And.intro hbe1 (And.intro hgc hgi)))
  have hHeld := (show w4.cell? ⟨w.heap.size, 0, none⟩ = some (.slice (some ad) l0.length c0) ∧ w4.cell? ad = some (.slice Ar (row0).length cr) from ⟨(bC HGC4.out 0).trans rfl, HRW4.out⟩)
  have hcb := (bC f1 0).trans (show _ = some (Value.slice none 0 0) from rfl)
  have hfb := bF f1 0
  have HADN := aM (show (⟨bo, 0, none⟩ : Addr) ≠ ad from fun e => by have h1 := HADL.out; rw [← e] at h1; exact absurd h1 (by simpa using hbo1))
  clear f1 f2 f3 f4 f5 f6 hbo1 hbe1 hgc hgi hle
  refine norm_ (a' := ?_) ?_ ?_
  rotate_left
  ·
   simp only [putAll, Act.put, sA, sZ, sU]
   rfl
  refine one_ (i := 6) (N := none) #[true, true, true, true, true, true, true, false] rfl rfl (by kernel_rfl) (by decide) (fun K hK => ?_)
  refine skip_ (w1 := ?_) (by rfl) rfl ?_ ?_
  rotate_left
  ·
   go_simp
   rfl
  refine hK.out _ _ ⟨(bC (blk_far HGC4.out HN.out.2.2.1 (p := ⟨bo, 0, none⟩) _) 0).trans rfl, (World.cell?_setCell_other (h := HADN.out) ..).trans HRW4.out⟩ (fun hHeld => ?_)
  clear hK K
  refine pure_ (i := 7) (N := some 6) (v := ?_) (a' := ?_) #[true, true, true, true, true, true, true, true] rfl rfl (by kernel_rfl) (fun _ _ _ h => h) (Or.inl ⟨by rfl, ?_⟩) ?_ ?_
  rotate_left
  ·
   intro w'
   go_simp
   with_reducible rfl
  rotate_left
  ·
   simp only [Act.put, sA, sZ, sU, i64_w, i32_w]
   rfl
  refine done_ (by kernel_rfl) ?_
  have hin : impl_teaching.Inv k l0 (some ad) c0 a1 w bo w.heap.size (w.heap.size + 1) [] (w4.setCell ⟨bo, 0, none⟩ (.slice (some ⟨be, 0, none⟩) 0 0)) := by
   refine ⟨⟨_, blk_put HBO.out 0 _ rfl, Kd.R_of_own ⟨rfl, .inr ⟨be, 0, #[], rfl, HN.out.2.1, blk_far HBE.out (Ne.symm HOE.out) _, Nat.le_refl _, by decide, rfl, rfl⟩⟩ (fun x hx => ?_)⟩, blk_far HGC4.out HN.out.2.2.1 _, blk_far HGI4.out HN.out.2.2.2 _, eS HB4.out HN.out.1⟩
   have h1 : be = x := by simpa [Value.ownBlock] using hx
   rw [← h1]; exact Ne.symm HOE.out
  have HIN := aM hin
  clear hin hHeld hcb hfb HBO HBE HGC4 HGI4 HRW4 HB4 HADN HOE HB HRW HGC HGI
  generalize w4.setCell ⟨bo, 0, none⟩ (.slice (some ⟨be, 0, none⟩) 0 0) = w5 at HIN ⊢
  go_wp2
  go_loopw [7] (fun v7 w' => ∃ j : Nat, v7 = .int .i64 (j : Int) ∧ Aside0 (j ≤ row0.length + 1) ∧ Aside0 (((List.range j).flatMap fun r => cmbs row0.length r 0).any (impl_teaching.p k l0 a1) = false) ∧ Aside0 (impl_teaching.Inv k l0 (some ad) c0 a1 w bo w.heap.size (w.heap.size + 1) ((List.range j).flatMap fun r => cmbs row0.length r 0) w')) (fun v7 _ => row0.length + 1 - (intOf v7).toNat)
  case atStart => exact ⟨0, rfl, ⟨Nat.zero_le _⟩, ⟨rfl⟩, HIN⟩
  case round =>
   clear HIN
   obtain ⟨j, rfl, HJ, HA, HIN⟩ := hrel
   by_cases cc : j ≤ row0.length
   ·
    have c1 : decide ((j : Int) ≤ (row0.length : Int)) = true := decide_eq_true (by omega)
    have c2 : decide (j ≤ row0.length) = true := decide_eq_true cc
    have HJM := aM cc
    have hj1 : (j : Int) ≤ 20 := by have := HM.out; omega
    have h0j : (0 : Int) ≤ (j : Int) := by omega
    have hst := impl_teaching.steps k l0 (some ad) c0 a1 w bo w.heap.size (w.heap.size + 1) HI.out.1 HI.out.2 HN.out.1 HC.out HC0.out row0.length j HM.out cc HO.out wr (by obtain ⟨⟨vo, i1, _⟩, _⟩ := HIN.out; exact blk_lt i1) _ HIN.out
    obtain ⟨b, hb⟩ : ∃ b, (cmbs row0.length j 0).any (impl_teaching.p k l0 a1) = b := ⟨_, rfl⟩
    rw [hb] at hst
    have HST := aM hst
    have HBB := aM hb
    clear hst hb cc
    cases b with
    | true =>
     go_wp2_with (first | (go_at_call 83; (with_reducible refine HST.out.mono ?_); rintro e w6 ⟨rfl, hi, hf⟩; obtain ⟨⟨vo, i1, i2⟩, i3, i4, i5⟩ := hi; obtain ⟨Ao, co, rfl⟩ := Kd.R_slice i2; have J1 := aM i1; have J2 := aM i2; have J5 := aM i5; clear i1 i2 i3 i4 i5 hf; have hob := (bC J1.out 0).trans (show _ = some (Value.slice Ao _ co) from rfl)))
     go_ret
     obtain ⟨rest, hsp⟩ := impl_teaching.split row0.length j HJM.out
     have hres := HRES.out
     rw [hsp, uptoT_no _ _ _ HA.out, uptoT_yes _ _ _ HBB.out] at hres
     rw [← hres]
     exact ⟨_, rfl, rM J2.out (fun _ _ => trivial), J5.out⟩
    | false =>
     go_wp2_with (first | (go_at_call 83; (with_reducible refine HST.out.mono ?_); rintro e w6 ⟨rfl, hi, hf⟩; have J1 := aM hi; clear hi hf))
     go_roundw
     case rel =>
      have e1 : (List.range (j + 1)).flatMap (fun r => cmbs row0.length r 0) = ((List.range j).flatMap fun r => cmbs row0.length r 0) ++ cmbs row0.length j 0 := by rw [List.range_succ, List.flatMap_append]; simp
      refine ⟨j + 1, by go_num, ⟨by have := HJM.out; omega⟩, ⟨by rw [e1, List.any_append, HA.out, HBB.out]; rfl⟩, ⟨?_⟩⟩
      have h1 := J1.out
      rw [uptoT_all _ _ HBB.out] at h1
      rw [e1]; exact h1
     case measure => have := HJM.out; simp [intOf]; omega
   ·
    have c1 : decide ((j : Int) ≤ (row0.length : Int)) = false := decide_eq_false (by omega)
    have c2 : decide (j ≤ row0.length) = false := decide_eq_false cc
    have e : j = row0.length + 1 := by have := HJ.out; omega
    have HE := aM e
    obtain ⟨⟨vo, i1, i2⟩, i3, i4, i5⟩ := HIN.out
    obtain ⟨Ao, co, rfl⟩ := Kd.R_slice i2
    have J2 := aM i2
    have J5 := aM i5
    have hob := (bC i1 0).trans (show _ = some (Value.slice Ao _ co) from rfl)
    clear i1 i2 i3 i4 i5 e cc
    go_wp2
    go_ret
    have hres := HRES.out
    have ha := HA.out
    rw [HE.out] at ha
    rw [show impl_teaching.sets row0.length = (List.range (row0.length + 1)).flatMap fun r => cmbs row0.length r 0 from rfl, uptoT_all _ _ ha, ← HE.out] at hres
    rw [← hres]
    exact ⟨_, rfl, rM J2.out (fun _ _ => trivial), J5.out⟩
 ·
  rw [if_neg c] at h; cases h
def impl_TeachingSet.f (k : Nat) (l0 : List (List Int)) (a1 : Int) : Option (List Int × Bool) := (impl_IsClass.f k l0).bind fun t242 => (if t242 = true then ((impl_within.f a1 0 (wrap64 ((l0.length : Int) - 1))).bind fun t243 => (if t243 = true then ((impl_teaching.f k l0 a1).bind fun t244 => (some (t244, true))) else (some (([] : List Int), false)))) else (some (([] : List Int), false)))
theorem impl_TeachingSet.mono : ∀ a0 a1 k, LeO (impl_TeachingSet.f k a0 a1) (impl_TeachingSet.f (k + 1) a0 a1) := by
 intro a0 a1 k
 unfold impl_TeachingSet.f
 repeat' first
   | (with_reducible exact impl_IsClass.mono _ _)
   | (with_reducible exact impl_teaching.mono _ _ _)
   | (with_reducible exact LeO.refl _)
   | (with_reducible exact LeO.none _)
   | (with_reducible refine LeO.ite ?_ ?_)
   | (with_reducible refine LeO.bind ?_ (fun _ => ?_))
   | exact impl_IsClass.mono _ _
   | exact impl_teaching.mono _ _ _
   | exact LeO.none _
   | refine LeO.ite ?_ ?_
   | refine LeO.bind ?_ (fun _ => ?_)
set_option maxHeartbeats 8000000 in
set_option maxRecDepth 100000 in
theorem impl_TeachingSet.calls (k : Nat) (A0 : Option Addr) (c0 : Nat) (l0 : List (List Int)) (a1 : Int) (r1 : List Int) (r2 : Bool) (w : World) (hr0 : Kd.C (Kd.slice 3 (Kd.int .i64)) w A0 l0.length l0) (hc0 : l0.length ≤ c0) (h : impl_TeachingSet.f k l0 a1 = some (r1, r2)) :
  Calls Try.prog 10 #[.slice A0 l0.length c0, .int .i64 a1] w fun e w' => ∃ v0_ : Value, e = .returned (.tuple #[v0_, .bool r2]) ∧ Kd.R (Kd.int .i64) 3 w' w.heap.size (fun _ => True) v0_ r1 ∧ Below w.heap.size w w' := by
 have HR0 := aM hr0
 have HC0 := aM hc0
 clear hr0 hc0
 have HB := aM (Below.refl w.heap.size w)
 have H : ((impl_IsClass.f k l0).bind fun t242 => (if t242 = true then ((impl_within.f a1 0 (wrap64 ((l0.length : Int) - 1))).bind fun t243 => (if t243 = true then ((impl_teaching.f k l0 a1).bind fun t244 => (some (t244, true))) else (some (([] : List Int), false)))) else (some (([] : List Int), false)))) = some (r1, r2) := h
 clear h
 replace H := oB.mp H
 obtain ⟨t242, A30, H⟩ := H
 replace H : (if t242 = true then ((impl_within.f a1 0 (wrap64 ((l0.length : Int) - 1))).bind fun t243 => (if t243 = true then ((impl_teaching.f k l0 a1).bind fun t244 => (some (t244, true))) else (some (([] : List Int), false)))) else (some (([] : List Int), false))) = some (r1, r2) := H
 have A3 := aM A30
 clear A30
 by_cases c4 : t242 = true
 ·
  subst c4
  have H1 : ((impl_within.f a1 0 (wrap64 ((l0.length : Int) - 1))).bind fun t243 => (if t243 = true then ((impl_teaching.f k l0 a1).bind fun t244 => (some (t244, true))) else (some (([] : List Int), false)))) = some (r1, r2) := by rw [if_pos rfl] at H; exact H
  clear H
  have H := H1
  clear H1
  replace H := oB.mp H
  obtain ⟨t243, A50, H⟩ := H
  replace H : (if t243 = true then ((impl_teaching.f k l0 a1).bind fun t244 => (some (t244, true))) else (some (([] : List Int), false))) = some (r1, r2) := H
  have A5 := aM A50
  clear A50
  by_cases c6 : t243 = true
  ·
   subst c6
   have H1 : ((impl_teaching.f k l0 a1).bind fun t244 => (some (t244, true))) = some (r1, r2) := by rw [if_pos rfl] at H; exact H
   clear H
   have H := H1
   clear H1
   replace H := oB.mp H
   obtain ⟨t244, A70, H⟩ := H
   replace H : (some (t244, true)) = some (r1, r2) := H
   have A7 := aM A70
   clear A70
   simp only [Option.some.injEq, Prod.mk.injEq] at H
   obtain ⟨rfl, rfl⟩ := H
   go_enter Try.func10, Try.ntmps10
   go_wp2_with (first | ((with_reducible refine gate_callee (f := 42) rfl ?_); refine goesL_ (some 7) rfl rfl Try.func42 (by kernel_rfl) rfl #[.slice A0 l0.length c0] rfl (by (try simp only [List.map_toArray, List.map_cons, List.map_nil]); first | done | rfl | (simp only [List.length_drop, List.length_take]; rfl)) ?_; (with_reducible refine (impl_IsClass.calls k _ _ l0 true _ ?side1 ?side2 A3.out).mono ?_); (case side1 => repeat (first | exact HR0.out | (with_reducible refine Kd.C_alloc ?_ _) | (with_reducible refine Kd.C_drewN ?_ _) | (with_reducible refine Kd.C_drew ?_))); (case side2 => exact HC0.out); rintro e w' ⟨rfl, ⟨nd, rfl⟩⟩; refine ⟨_, rfl, ?_⟩) | (go_at_call 43; (with_reducible refine (impl_within.calls a1 0 (wrap64 ((l0.length : Int) - 1)) true _ A5.out).mono ?_); rintro e w' ⟨rfl, ⟨nd, rfl⟩⟩) | ((with_reducible refine gate_callee (f := 44) rfl ?_); refine goesL_ (some 19) rfl rfl Try.func44 (by kernel_rfl) rfl #[.slice A0 l0.length c0, .int .i64 a1] rfl (by (try simp only [List.map_toArray, List.map_cons, List.map_nil]); first | done | rfl | (simp only [List.length_drop, List.length_take]; rfl)) ?_; (with_reducible refine (impl_teaching.calls k _ _ l0 a1 t244 _ ?side1 ?side2 A7.out).mono ?_); (case side1 => repeat (first | exact HR0.out | (with_reducible refine Kd.C_alloc ?_ _) | (with_reducible refine Kd.C_drewN ?_ _) | (with_reducible refine Kd.C_drew ?_))); (case side2 => exact HC0.out); rintro e w8 ⟨v245, rfl, ho0, hb⟩; refine ⟨_, rfl, ?_⟩; have n0_ := aM (Kd.R_lower ho0 (below_size (by repeat (first | (with_reducible first | exact HB.out | apply eA | apply eN | apply eD) | exact HB.out)))); have n1_ := aM (below_step (by repeat (first | (with_reducible first | exact HB.out | apply eA | apply eN | apply eD) | exact HB.out)) hb); clear HB; have HO246 := n0_; have HB := n1_; clear n0_ n1_; (try clear hb); (try clear hb2); (try clear hk); (try clear hi); (try clear ho0)))
   go_ret2
   exact ⟨_, by first | rfl | (simp [errW_none, errW_some] <;> rfl) | (simp [*, errW_none, errW_some] <;> rfl), by (with_reducible repeat (first | apply rA | apply rN | apply rD)); exact HO246.out, by repeat (first | (with_reducible first | exact HB.out | apply eA | apply eN | apply eD) | exact HB.out)⟩
  ·
   replace c6 := Bool.eq_false_iff.mpr c6
   subst c6
   have H1 : (some (([] : List Int), false)) = some (r1, r2) := by rw [if_neg (show ¬ (false = true) by decide)] at H; exact H
   clear H
   have H := H1
   clear H1
   simp only [Option.some.injEq, Prod.mk.injEq] at H
   obtain ⟨rfl, rfl⟩ := H
   go_enter Try.func10, Try.ntmps10
   go_wp2_with (first | ((with_reducible refine gate_callee (f := 42) rfl ?_); refine goesL_ (some 7) rfl rfl Try.func42 (by kernel_rfl) rfl #[.slice A0 l0.length c0] rfl (by (try simp only [List.map_toArray, List.map_cons, List.map_nil]); first | done | rfl | (simp only [List.length_drop, List.length_take]; rfl)) ?_; (with_reducible refine (impl_IsClass.calls k _ _ l0 true _ ?side1 ?side2 A3.out).mono ?_); (case side1 => repeat (first | exact HR0.out | (with_reducible refine Kd.C_alloc ?_ _) | (with_reducible refine Kd.C_drewN ?_ _) | (with_reducible refine Kd.C_drew ?_))); (case side2 => exact HC0.out); rintro e w' ⟨rfl, ⟨nd, rfl⟩⟩; refine ⟨_, rfl, ?_⟩) | (go_at_call 43; (with_reducible refine (impl_within.calls a1 0 (wrap64 ((l0.length : Int) - 1)) false _ A5.out).mono ?_); rintro e w' ⟨rfl, ⟨nd, rfl⟩⟩))
   go_ret2
   exact ⟨_, by first | rfl | (simp [errW_none, errW_some] <;> rfl) | (simp [*, errW_none, errW_some] <;> rfl), by first | exact Kd.R_nil _ _ _ _ _ | exact Kd.N_nil _ _ _ _ _ | exact Kd.V_nil _ _ _ _ _ | exact Kd.Q_nil _ _ _ _ _ | exact Kd.S_nil _ _ _ _ _, by repeat (first | (with_reducible first | exact HB.out | apply eA | apply eN | apply eD) | exact HB.out)⟩
 ·
  replace c4 := Bool.eq_false_iff.mpr c4
  subst c4
  have H1 : (some (([] : List Int), false)) = some (r1, r2) := by rw [if_neg (show ¬ (false = true) by decide)] at H; exact H
  clear H
  have H := H1
  clear H1
  simp only [Option.some.injEq, Prod.mk.injEq] at H
  obtain ⟨rfl, rfl⟩ := H
  go_enter Try.func10, Try.ntmps10
  go_wp2_with (first | ((with_reducible refine gate_callee (f := 42) rfl ?_); refine goesL_ (some 7) rfl rfl Try.func42 (by kernel_rfl) rfl #[.slice A0 l0.length c0] rfl (by (try simp only [List.map_toArray, List.map_cons, List.map_nil]); first | done | rfl | (simp only [List.length_drop, List.length_take]; rfl)) ?_; (with_reducible refine (impl_IsClass.calls k _ _ l0 false _ ?side1 ?side2 A3.out).mono ?_); (case side1 => repeat (first | exact HR0.out | (with_reducible refine Kd.C_alloc ?_ _) | (with_reducible refine Kd.C_drewN ?_ _) | (with_reducible refine Kd.C_drew ?_))); (case side2 => exact HC0.out); rintro e w' ⟨rfl, ⟨nd, rfl⟩⟩; refine ⟨_, rfl, ?_⟩))
  go_ret2
  exact ⟨_, by first | rfl | (simp [errW_none, errW_some] <;> rfl) | (simp [*, errW_none, errW_some] <;> rfl), by first | exact Kd.R_nil _ _ _ _ _ | exact Kd.N_nil _ _ _ _ _ | exact Kd.V_nil _ _ _ _ _ | exact Kd.Q_nil _ _ _ _ _ | exact Kd.S_nil _ _ _ _ _, by repeat (first | (with_reducible first | exact HB.out | apply eA | apply eN | apply eD) | exact HB.out)⟩
def spec_l1In.f (a0 : Int) (a1 : Int) (a2 : Int) : Option (Bool) := if a0 ≥ a1 then (some (decide (a0 ≤ a2))) else (some false)
set_option maxHeartbeats 8000000 in
set_option maxRecDepth 100000 in
theorem spec_l1In.calls (a0 : Int) (a1 : Int) (a2 : Int) (r : Bool) (w : World) (h : spec_l1In.f a0 a1 a2 = some r) :
  Calls Try.prog 46 #[.int .i64 a0, .int .i64 a1, .int .i64 a2] w fun e w' => e = .returned (.bool r) ∧ Drawn0 w w' := by
 have H : (if a0 ≥ a1 then (some (decide (a0 ≤ a2))) else (some false)) = some r := h
 clear h
 by_cases c4 : a0 ≥ a1
 ·
  rw [if_pos c4] at H
  have c4b0 : decide (a1 ≤ a0) = true := decide_eq_true c4
  clear c4
  obtain rfl := Option.some.inj H
  go_enter Try.func46, Try.ntmps46
  go_wp2
  go_ret
  exact ⟨by first | rfl | (simp; done) | (simp [*]; done), by repeat (first | exact Drawn0.refl _ | apply Drawn0.step)⟩
 ·
  rw [if_neg c4] at H
  have c4b0 : decide (a1 ≤ a0) = false := decide_eq_false c4
  clear c4
  obtain rfl := Option.some.inj H
  go_enter Try.func46, Try.ntmps46
  go_wp2
  go_ret
  exact ⟨by first | rfl | (simp; done) | (simp [*]; done), by repeat (first | exact Drawn0.refl _ | apply Drawn0.step)⟩
def spec_l2Labels.l0 : Nat → List Int → Int → Option (Bool)
 | 0, _, _ => none
 | k + 1, x0, x3 => if x3 < (x0.length : Int) then (if 0 ≤ x3 then (if (rd x0 x3) = 1 then (spec_l2Labels.l0 k x0 (wrap64 (x3 + 1))) else (if (rd x0 x3) = (-1) then (spec_l2Labels.l0 k x0 (wrap64 (x3 + 1))) else (some false))) else (none)) else (some true)
def spec_l2Labels.f (k : Nat) (l0 : List Int) : Option (Bool) := spec_l2Labels.l0 k l0 0
theorem spec_l2Labels.mono_l : ∀ k, (∀ y0 y1, LeO (spec_l2Labels.l0 k y0 y1) (spec_l2Labels.l0 (k + 1) y0 y1))
 | 0 => fun _ _ r h => by simp [spec_l2Labels.l0] at h
 | k + 1 => by
  have ih0 := spec_l2Labels.mono_l k
  ·
   intro y0 y1
   unfold spec_l2Labels.l0
   repeat' first
   | (with_reducible exact ih0 _ _)
   | (with_reducible exact LeO.refl _)
   | (with_reducible exact LeO.none _)
   | (with_reducible refine LeO.ite ?_ ?_)
   | (with_reducible refine LeO.bind ?_ (fun _ => ?_))
   | exact ih0 _ _
   | exact LeO.none _
   | refine LeO.ite ?_ ?_
   | refine LeO.bind ?_ (fun _ => ?_)
theorem spec_l2Labels.mono : ∀ a0 k, LeO (spec_l2Labels.f k a0) (spec_l2Labels.f (k + 1) a0) := by
 intro a0 k
 have ih0 := spec_l2Labels.mono_l k
 unfold spec_l2Labels.f
 repeat' first
   | (with_reducible exact ih0 _ _)
   | (with_reducible exact LeO.refl _)
   | (with_reducible exact LeO.none _)
   | (with_reducible refine LeO.ite ?_ ?_)
   | (with_reducible refine LeO.bind ?_ (fun _ => ?_))
   | exact ih0 _ _
   | exact LeO.none _
   | refine LeO.ite ?_ ?_
   | refine LeO.bind ?_ (fun _ => ?_)
set_option maxHeartbeats 8000000 in
set_option maxRecDepth 100000 in
theorem spec_l2Labels.calls (k : Nat) (A0 : Option Addr) (c0 : Nat) (l0 : List Int) (r : Bool) (w : World) (hr0 : Kd.C (Kd.int .i64) w A0 l0.length l0) (hc0 : l0.length ≤ c0) (h : spec_l2Labels.f k l0 = some r) :
  Calls Try.prog 53 #[.slice A0 l0.length c0] w fun e w' => e = .returned (.bool r) ∧ Drawn0 w w' := by
 have HR0 := aM hr0
 have HC0 := aM hc0
 clear hr0 hc0
 have H : (spec_l2Labels.l0 k l0 0) = some r := h
 clear h
 have H' := aM H
 clear H
 go_enter Try.func53, Try.ntmps53
 go_wp2
 go_loopg [3] k (fun kq v3 w' => ∃ (x3_1 : Int), v3 = .int .i64 x3_1 ∧ Aside0 (spec_l2Labels.l0 kq l0 x3_1 = some r) ∧ Aside0 (kq ≤ k) ∧ Drawn0 w w')
 case atStart => exact ⟨(0), (by first | rfl | (simp; done) | (simp [*]; done)), H', ⟨Nat.le_refl _⟩, by repeat (first | exact Drawn0.refl _ | apply Drawn0.step)⟩
 case round =>
  clear H'
  obtain ⟨x3_1, rfl, HA, HK1, ⟨m1, rfl⟩⟩ := hrel
  cases gk with
  | zero => exact absurd HA.out (by simp [spec_l2Labels.l0])
  | succ k1 =>
   have H := HA.out
   clear HA
   simp only [spec_l2Labels.l0] at H
   by_cases c2 : x3_1 < (l0.length : Int)
   ·
    rw [if_pos c2] at H
    have c2b0 : decide (x3_1 < (l0.length : Int)) = true := decide_eq_true c2
    clear c2
    by_cases c3 : 0 ≤ x3_1
    ·
     rw [if_pos c3] at H
     have c3b0 : decide (0 ≤ x3_1) = true := decide_eq_true c3
     clear c3
     by_cases c4 : (rd l0 x3_1) = 1
     ·
      rw [if_pos c4] at H
      have c4b0 : ((rd l0 x3_1) == 1) = true := beq_iff_eq.mpr c4
      have c4b1 : ((rd l0 x3_1) != 1) = false := bne_eq_false_iff_eq.mpr c4
      clear c4
      have H' := aM H
      clear H
      have p247 : 0 ≤ (x3_1 : Int) := of_decide_eq_true (by first | (with_reducible assumption) | assumption)
      have q247 : x3_1 < (l0.length : Int) := of_decide_eq_true (by first | (with_reducible assumption) | assumption)
      obtain ⟨ad247, e247, hx247_0⟩ := Kd.at_int HR0.out x3_1 p247 q247
      cases e247
      replace p247 := eq_true p247
      replace q247 := eq_true q247
      go_wp2
      go_roundg k1
      case measure => have := HK1.out; omega
      case rel => exact ⟨(wrap64 (x3_1 + 1)), (by first | rfl | (simp; done) | (simp [*]; done)), H', ⟨by have := HK1.out; omega⟩, by repeat (first | exact Drawn0.refl _ | apply Drawn0.step)⟩
     ·
      rw [if_neg c4] at H
      have c4b0 : ((rd l0 x3_1) == 1) = false := beq_eq_false_iff_ne.mpr c4
      have c4b1 : ((rd l0 x3_1) != 1) = true := bne_iff_ne.mpr c4
      by_cases c5 : (rd l0 x3_1) = (-1)
      ·
       rw [if_pos c5] at H
       have c5b0 : ((rd l0 x3_1) == (-1)) = true := beq_iff_eq.mpr c5
       have c5b1 : ((rd l0 x3_1) != (-1)) = false := bne_eq_false_iff_eq.mpr c5
       clear c5
       have H' := aM H
       clear H
       have p247 : 0 ≤ (x3_1 : Int) := of_decide_eq_true (by first | (with_reducible assumption) | assumption)
       have q247 : x3_1 < (l0.length : Int) := of_decide_eq_true (by first | (with_reducible assumption) | assumption)
       obtain ⟨ad247, e247, hx247_0⟩ := Kd.at_int HR0.out x3_1 p247 q247
       cases e247
       replace p247 := eq_true p247
       replace q247 := eq_true q247
       have p248 : 0 ≤ (x3_1 : Int) := of_decide_eq_true (by first | (with_reducible assumption) | assumption)
       have q248 : x3_1 < (l0.length : Int) := of_decide_eq_true (by first | (with_reducible assumption) | assumption)
       obtain ⟨ad248, e248, hx248_0⟩ := Kd.at_int HR0.out x3_1 p248 q248
       obtain rfl : ad247 = ad248 := (by injection e248)
       replace p248 := eq_true p248
       replace q248 := eq_true q248
       go_wp2
       go_roundg k1
       case measure => have := HK1.out; omega
       case rel => exact ⟨(wrap64 (x3_1 + 1)), (by first | rfl | (simp; done) | (simp [*]; done)), H', ⟨by have := HK1.out; omega⟩, by repeat (first | exact Drawn0.refl _ | apply Drawn0.step)⟩
      ·
       rw [if_neg c5] at H
       have c5b0 : ((rd l0 x3_1) == (-1)) = false := beq_eq_false_iff_ne.mpr c5
       have c5b1 : ((rd l0 x3_1) != (-1)) = true := bne_iff_ne.mpr c5
       obtain rfl := Option.some.inj H
       have p247 : 0 ≤ (x3_1 : Int) := of_decide_eq_true (by first | (with_reducible assumption) | assumption)
       have q247 : x3_1 < (l0.length : Int) := of_decide_eq_true (by first | (with_reducible assumption) | assumption)
       obtain ⟨ad247, e247, hx247_0⟩ := Kd.at_int HR0.out x3_1 p247 q247
       cases e247
       replace p247 := eq_true p247
       replace q247 := eq_true q247
       have p248 : 0 ≤ (x3_1 : Int) := of_decide_eq_true (by first | (with_reducible assumption) | assumption)
       have q248 : x3_1 < (l0.length : Int) := of_decide_eq_true (by first | (with_reducible assumption) | assumption)
       obtain ⟨ad248, e248, hx248_0⟩ := Kd.at_int HR0.out x3_1 p248 q248
       obtain rfl : ad247 = ad248 := (by injection e248)
       replace p248 := eq_true p248
       replace q248 := eq_true q248
       go_wp2
       go_ret
       exact ⟨by first | rfl | (simp; done) | (simp [*]; done), by repeat (first | exact Drawn0.refl _ | apply Drawn0.step)⟩
    ·
     rw [if_neg c3] at H
     exact absurd H (by simp)
   ·
    rw [if_neg c2] at H
    have c2b0 : decide (x3_1 < (l0.length : Int)) = false := decide_eq_false c2
    clear c2
    obtain rfl := Option.some.inj H
    go_wp2
    go_ret
    exact ⟨by first | rfl | (simp; done) | (simp [*]; done), by repeat (first | exact Drawn0.refl _ | apply Drawn0.step)⟩
end Go.Proofs.Ytlbleemoiabmdaa.PFnTeaching
