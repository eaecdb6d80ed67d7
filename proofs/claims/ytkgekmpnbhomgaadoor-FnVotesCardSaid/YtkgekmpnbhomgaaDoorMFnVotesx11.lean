-- Laid for this claim by a program of the session's own (wip/tool/myprint.py).
import Derived.Test.YtkgekmpnbhomgaaDoorMFnVotesx0
import Derived.Test.YtkgekmpnbhomgaaDoorMFnVotesx3
import Derived.Test.YtkgekmpnbhomgaaDoorMFnVotesx4
import Derived.Test.YtkgekmpnbhomgaaDoorMFnVotesx5
import Derived.Test.YtkgekmpnbhomgaaDoorMFnVotesx6
import Derived.Test.YtkgekmpnbhomgaaDoorMFnVotesx7
import Derived.Test.YtkgekmpnbhomgaaDoorMFnVotesx10
namespace Go.Proofs.YtkgekmpnbhomgaaDoor.PFnVotes
open Go.RowKit Go.Proofs.YtkgekmpnbhomgaaDoorW.PrintWords Go.Proofs.YtkgekmpnbhomgaaDoorW.PrintLast Go.Proofs.YtkgekmpnbhomgaaDoorW.PrintMore
attribute [local go_sem] max2_int min2_int max_two min_two max_three min_three max_four min_four
set_option linter.unusedVariables false
set_option maxHeartbeats 8000000
set_option maxRecDepth 100000
set_option linter.unusedSimpArgs false
theorem loss_closure (k : Nat) (l : List Int) (A0 : Option Addr) (c0 : Nat) (q : Int) (B : Nat) (s : Nat) (hs : s < 256) (hl8 : l.length ≤ 8) (hsl : s < 2 ^ l.length) (hall : impl_Vote_all.f l q = some (((2 ^ l.length : Nat) : Int) - 1)) (W : World) (hBK : W.heap[B]? = some (.cells #[.slice A0 l.length c0, .int .i64 q] 26 (0, 0)))
  (hr : Kd.C (Kd.int .i64) W A0 l.length l) (hc : l.length ≤ c0) (hg : 1 < W.heap.size) (hT : Go.Proofs.TabAt 1 Lib.deBruijn64tab W) (hw : ∀ t : Nat, t < 256 → ∃ b, impl_Vote_wins.f k l q (t : Int) = some b) :
  Calls Tryd.prog 44 (#[].push (.int .i64 (s : Int)) ++ #[.pointer (some ⟨B, 0, none⟩)]) W fun e W' => e = .returned (.bool (lossV k l q s)) ∧ Below W.heap.size W W' := by
 have HB := aM (Below.refl W.heap.size W)
 have HR0 := aM hr
 have HC0 := aM hc
 have HW := aM hw
 have HS := aM hs
 have BK0 := aM hBK
 have hwv : ∀ t : Nat, t < 256 → impl_Vote_wins.f k l q (t : Int) = some (winV k l q t) := fun t ht => by
  obtain ⟨b, hb⟩ := hw t ht
  unfold winV; rw [hb]; rfl
 have HWV := aM hwv
 have hp : 2 ^ l.length ≤ 256 := Nat.pow_le_pow_right (n := 2) (by decide) hl8
 have h8 : ∀ n : Nat, n ≤ 8 → ∀ s : Nat, s < 2 ^ n → Go.bits .andNot .i64 (((2 ^ n : Nat) : Int) - 1) (s : Int) = ((2 ^ n - 1 - s : Nat) : Int) := by decide +kernel
 have hcm := h8 _ hl8 _ hsl
 obtain ⟨zz, hzz⟩ : ∃ zz, 2 ^ l.length - 1 - s = zz := ⟨_, rfl⟩
 have HZZ := aM hzz
 have hz : zz < 256 := by omega
 rw [hzz] at hcm
 obtain ⟨am, ham⟩ : ∃ am : Int, ((2 ^ l.length : Nat) : Int) - 1 = am := ⟨_, rfl⟩
 rw [ham] at hcm hall
 have HALL := aM hall
 have HZ := aM hz
 clear ham hzz hall hp h8 hl8 hsl
 have hm := members_calls zz hz
 obtain ⟨row, hrow⟩ : ∃ row, bitsV zz = row := ⟨_, rfl⟩
 rw [hrow] at hm
 have HM := aM hm
 have HROW := aM hrow
 have HG := aM hg
 have HT := aM hT
 have HIN := aM (show ∀ x ∈ row, ∃ i : Nat, i < 8 ∧ x = i from fun x hx => bitsV_in (hrow ▸ hx))
 have hcB0 := (bC BK0.out 0).trans rfl
 have hcB1 := (bC BK0.out 1).trans rfl
 have hu28 := Tryd.underlying26
 clear hm hrow hg hT hw hs hr hc hBK hwv
 go_enter Tryd.func44, Tryd.ntmps44
 go_wp2_with (first | (go_at_call 37; (with_reducible refine (HM.out _ ?hg ?hT).mono ?_); (case hg => exact (Nat.lt_of_lt_of_le HG.out (below_size (xH HB.out)))); (case hT => exact tab_below HT.out HG.out (xH HB.out)); rintro e w15 ⟨vr, rfl, hr, hb⟩; obtain ⟨Ah, ch, rfl⟩ := Kd.R_slice hr; have n1_ := aM (Kd.R_lower hr (below_size (xH HB.out))); have n2_ := yS0 HB hb; clear HB HM hb hr; (try clear hcB0 hcB1); have HO := n1_; have HB := n2_; clear n1_ n2_) | (go_at_call 45; (with_reducible refine (impl_Vote_all.calls A0 c0 l q _ _ (Kd.C_below HR0.out (xH HB.out)) HC0.out HALL.out).mono ?_); rintro e w3 ⟨rfl, hb⟩; have n2_ := yS0 HB hb; clear HB hb hcB0 hcB1; have HB := n2_; clear n2_))
 go_loopw [12] (fun v9 w' => ∃ j : Nat, v9 = .int .i64 (j : Int) ∧ Aside0 (j ≤ row.length ∧ (row.take j).all (fun i => winV k l q (setN s i.toNat)) = true) ∧ Aside0 (Kd.R (Kd.int .i64) 3 w' W.heap.size (fun _ => True) (.slice Ah row.length ch) row) ∧ Aside0 (Below W.heap.size W w')) (fun v9 _ => row.length - (intOf v9).toNat)
 case atStart => exact ⟨0, rfl, ⟨Nat.zero_le _, rfl⟩, ⟨xR HO.out⟩, ⟨(xH HB.out)⟩⟩
 case round =>
  clear HO HB
  obtain ⟨j, rfl, HJ, HO, HB⟩ := hrel
  have BK := aM (bB BK0.out HB.out)
  have hcB0 := (bC BK.out 0).trans rfl
  have hcB1 := (bC BK.out 1).trans rfl
  by_cases c : j < row.length
  ·
   have d0 : decide ((j : Int) < (row.length : Int)) = true := decide_eq_true (by omega)
   have d1 : decide (j < row.length) = true := decide_eq_true c
   have HC := aM c
   have hrl : row.length ≤ 8 := by rw [← HROW.out]; exact bitsV_len _ HZ.out
   have h0j : (0 : Int) ≤ (j : Int) := by omega
   have hj8 : (j : Int) < 8 := by omega
   obtain ⟨i, hi8, hxi⟩ := HIN.out row[j] (List.getElem_mem c)
   obtain ⟨ad, e1, hcj⟩ := Kd.at_int (Kd.R_reads' HO.out).2.2 (j : Int) (by omega) (by omega)
   cases e1
   have hrd : rd row (j : Int) = (i : Int) := by unfold rd; rw [Int.toNat_natCast, List.getD_eq_getElem?_getD, List.getElem?_eq_getElem c]; exact hxi
   rw [hrd, Int.toNat_natCast] at hcj
   have HXI := aM (show row.getD j 0 = (i : Int) by rw [List.getD_eq_getElem?_getD, List.getElem?_eq_getElem c]; exact hxi)
   have HI8 := aM hi8
   have hi0 : (0 : Int) ≤ (i : Int) := by omega
   have hi64 : (i : Int) < 8 := by omega
   have hcl := (setN_bits s HS.out i hi8).1
   have hlt := (setN_bits s HS.out i hi8).2
   have hp2 : (2 : Int) ^ i = ((2 ^ i : Nat) : Int) := by simp
   obtain ⟨pi, hpi⟩ : ∃ pi : Int, ((2 ^ i : Nat) : Int) = pi := ⟨_, rfl⟩
   have hpib : 0 ≤ pi ∧ pi ≤ 128 := by
    have h7 : 2 ^ i ≤ 128 := Nat.pow_le_pow_right (n := 2) (j := 7) (by decide) (by omega)
    rw [← hpi]; exact ⟨Int.natCast_nonneg _, Int.ofNat_le.2 h7⟩
   have hji1 : IntKind.i64.wrap (1 * 2 ^ min (i : Int).toNat 64) = pi := by
    rw [Int.toNat_natCast, show min i 64 = i by omega, Int.one_mul, hp2, hpi, IntKind.wrap_i64]; omega
   have hji2 : IntKind.i64.wrap (2 ^ min (i : Int).toNat 64) = pi := by rw [← hji1, Int.one_mul]
   have hji3 : IntKind.i64.wrap (2 ^ i) = pi := by rw [hp2, hpi, IntKind.wrap_i64]; omega
   have hji4 : wrap64 (2 ^ i) = pi := by rw [hp2, hpi]; unfold wrap64; omega
   have hji5 : IntKind.i64.wrap (1 * 2 ^ i) = pi := by rw [Int.one_mul]; exact hji3
   rw [hpi] at hcl
   have hw1 := HWV.out _ hlt
   obtain ⟨bw, hbw⟩ : ∃ bw, winV k l q (setN s i) = bw := ⟨_, rfl⟩
   rw [hbw] at hw1
   have HW1 := aM hw1
   have HBW := aM hbw
   have c1_ : (j : Int) < (row.length : Int) := by omega
   clear hrd hxi hi8 hlt hp2 hpi hpib hw1 hbw
   go_wp2
   have BKd := aM (bD BK.out)
   have HOd := aM (rD HO.out)
   have HBd := aM (eD HB.out)
   clear HO HB BK hcB0 hcB1
   refine start_ (n := 7) (S := fun w' => w'.cell? ⟨B, 0, none⟩ = some (.slice A0 l.length c0) ∧ w'.cell? ⟨B, 1, none⟩ = some (.int .i64 q)) (ds := []) (bm 7 0) (by kernel_rfl) rfl rfl ⟨(bC BKd.out 0).trans rfl, (bC BKd.out 1).trans rfl⟩ (fun hHeld => ?_)
   generalize wr.drew = wd at BKd HOd HBd hHeld ⊢
   refine pure_ (i := 1) (N := some 17) (v := ?_) (a' := ?_) (bm 7 2) rfl rfl (by kernel_rfl) (fun _ _ _ h => h) (Or.inl ⟨by rfl, ?_⟩) ?_ ?_
   rotate_left
   ·
    intro w'
    go_simp
    with_reducible rfl
   rotate_left
   ·
    simp only [Act.put, sA, sZ, sU, i64_w, i32_w]
    rfl
   refine pure_ (i := 2) (N := some 18) (v := ?_) (a' := ?_) (bm 7 6) rfl rfl (by kernel_rfl) (fun _ _ _ h => h) (Or.inl ⟨by rfl, ?_⟩) ?_ ?_
   rotate_left
   ·
    intro w'
    go_simp
    with_reducible rfl
   rotate_left
   ·
    simp only [Act.put, sA, sZ, sU, i64_w, i32_w]
    rfl
   refine pure_ (i := 3) (N := some 19) (v := ?_) (a' := ?_) (bm 7 14) rfl rfl (by kernel_rfl) (fun _ _ _ h => h) (Or.inl ⟨by rfl, ?_⟩) ?_ ?_
   rotate_left
   ·
    intro w'
    go_simp
    with_reducible rfl
   rotate_left
   ·
    simp only [Act.put, sA, sZ, sU, i64_w, i32_w]
    rfl
   refine pure_ (i := 4) (N := some 20) (v := ?_) (a' := ?_) (bm 7 30) rfl rfl (by kernel_rfl) (fun _ _ _ h => h) (Or.inl ⟨by rfl, ?_⟩) ?_ ?_
   rotate_left
   ·
    intro w'
    go_simp
    with_reducible rfl
   rotate_left
   ·
    simp only [Act.put, sA, sZ, sU, i64_w, i32_w]
    rfl
   refine take_ (i := 0) (N := some 16) (v := ?_) (a' := ?_) (bm 7 31) rfl rfl (by kernel_rfl) (fun _ _ _ h => h) (Or.inl ⟨by rfl, ?_⟩) hHeld ?_ ?_
   rotate_left
   ·
    rintro w' ⟨s0, s1⟩
    first | (go_simp; with_reducible rfl) | (simp only [add_plain] at s0 s1; go_simp; with_reducible rfl)
   rotate_left
   ·
    simp only [Act.put, sA, sZ, sU, i64_w, i32_w]
    rfl
   refine one_ (i := 5) (N := some 21) (bm 7 63) rfl rfl (by kernel_rfl) (by decide) (fun K hK => ?_)
   refine goes_ Tryd.func31 (by kernel_rfl) rfl #[.agg #[.slice A0 l.length c0, .int .i64 q], .int .i64 (((setN s i : Nat) : Int))] (by rfl) rfl rfl (by simp only [List.map_toArray, List.map_cons, List.map_nil]; rfl) ?_
   with_reducible refine (impl_Vote_wins.calls k A0 c0 l q (((setN s i : Nat) : Int)) bw _ (Kd.C_below HR0.out HBd.out) HC0.out HW1.out).mono ?_
   rintro e w3 ⟨rfl, hb⟩
   refine ⟨_, rfl, ?_⟩
   replace BKd := aM (bB BKd.out hb)
   have HO := aM (Kd.R_below HOd.out hb)
   have HB := aM (below_step HBd.out hb)
   clear HOd HBd hb
   refine hK.out _ _ ⟨(bC BKd.out 0).trans rfl, (bC BKd.out 1).trans rfl⟩ (fun hHeld => ?_)
   clear hK K
   refine norm_ (a' := ?_) ?_ ?_
   rotate_left
   ·
    show Act.put _ (some 21) _ = _
    simp only [Act.put, sA, sZ, sU, i64_w, i32_w]
    rfl
   refine pure_ (i := 6) (N := some 22) (v := ?_) (a' := ?_) (bm 7 127) rfl rfl (by kernel_rfl) (fun _ _ _ h => h) (Or.inl ⟨by rfl, ?_⟩) ?_ ?_
   rotate_left
   ·
    intro w'
    go_simp
    with_reducible rfl
   rotate_left
   ·
    simp only [Act.put, sA, sZ, sU, i64_w, i32_w]
    rfl
   refine done_ (by kernel_rfl) ?_
   cases bw with
   | false =>
    go_wp2
    go_ret
    exact ⟨by have h2 := all_out row (fun i => winV k l q (setN s i.toNat)) j HC.out (by simp only [HXI.out, Int.toNat_natCast, HBW.out]; try rfl); show _ = Ending.returned (.bool (lossV k l q s)); unfold lossV; rw [HZZ.out, HROW.out, h2]; rfl, HB.out⟩
   | true =>
    go_wp2
    go_roundw
    case rel => exact ⟨j + 1, by go_num, ⟨HC.out, all_step row _ j HC.out HJ.out.2 (by simp only [HXI.out, Int.toNat_natCast, HBW.out]; try rfl)⟩, HO, HB⟩
    case measure => have := HC.out; simp [intOf]; omega
  ·
   have d0 : decide ((j : Int) < (row.length : Int)) = false := decide_eq_false (by omega)
   have d1 : decide (j < row.length) = false := decide_eq_false c
   have e : j = row.length := by have := HJ.out.1; omega
   have hall := HJ.out.2
   rw [e, List.take_length] at hall
   have HALLR := aM hall
   have hw1 := HWV.out s HS.out
   obtain ⟨bw, hbw⟩ : ∃ bw, winV k l q s = bw := ⟨_, rfl⟩
   rw [hbw] at hw1
   have HW1 := aM hw1
   have HBW := aM hbw
   clear e hall c hw1 hbw
   go_wp2_with (first | (go_at_call 31; (with_reducible refine (impl_Vote_wins.calls k A0 c0 l q (s : Int) bw _ (Kd.C_below HR0.out (xH HB.out)) HC0.out HW1.out).mono ?_); rintro e w3 ⟨rfl, hb⟩; have n2_ := yS0 HB hb; clear HB hb hcB0 hcB1 BK HO; have HB := n2_; clear n2_))
   go_ret
   exact ⟨by show _ = Ending.returned (.bool (lossV k l q s)); unfold lossV; rw [HZZ.out, HROW.out, HALLR.out, HBW.out]; cases bw <;> rfl, HB.out⟩
def impl_GreatestLosses.f (k : Nat) (l0 : List Int) (a1 : Int) : Option (List (List Int) × Bool) := (impl_IsVote.f k l0 a1).bind fun t => if t = true then (if OKV k l0 a1 then some (sortL cfS (((List.range (2 ^ l0.length)).filter (lossV k l0 a1)).map bitsV), true) else none) else some ([], false)
theorem impl_GreatestLosses.calls (k : Nat) (A0 : Option Addr) (c0 : Nat) (l0 : List Int) (a1 : Int) (r1 : List (List Int)) (r2 : Bool) (w : World) (hr0 : Kd.C (Kd.int .i64) w A0 l0.length l0) (hc0 : l0.length ≤ c0) (h : impl_GreatestLosses.f k l0 a1 = some (r1, r2))
  (hg : 1 < w.heap.size) (hT : Go.Proofs.TabAt 1 Lib.deBruijn64tab w) :
  Calls Tryd.prog 12 #[.agg #[.slice A0 l0.length c0, .int .i64 a1]] w fun e w' => ∃ v0_ : Value, e = .returned (.tuple #[v0_, .bool r2]) ∧ Kd.S (Kd.slice 3 (Kd.int .i64)) 24 w' w.heap.size (fun _ => True) v0_ r1 ∧ Below w.heap.size w w' := by
 unfold impl_GreatestLosses.f at h
 obtain ⟨t, hv, h⟩ := oB.mp h
 have HV := aM hv
 have HR0 := aM hr0
 have HC0 := aM hc0
 have HG := aM hg
 have HT := aM hT
 have HB := aM (Below.refl w.heap.size w)
 have hu28 := Tryd.underlying26
 clear hv hr0 hc0 hg hT
 cases t with
 | false =>
  rw [if_neg (by simp)] at h
  cases h
  go_enter Tryd.func12, Tryd.ntmps12
  go_wp2_with (first | (refine yB 1 #[.slice A0 l0.length c0, .int .i64 a1] 26 ?_; intro gb hg wb hbox hb; have n0_ := yS0 HB hb; have BK := aM hbox; have GE := yV0 hg HB; have HLT := aM (blk_lt hbox); clear HB; have HB := n0_; clear n0_ hb hbox hg; have hcB0 := (bC BK.out 0).trans rfl; have hcB1 := (bC BK.out 1).trans rfl) | (go_at_call 10; (with_reducible refine (impl_IsVote.calls k A0 c0 l0 a1 false _ (Kd.C_below HR0.out (xH HB.out)) HC0.out HV.out).mono ?_); rintro e w3 ⟨rfl, hb⟩; have n2_ := yS0 HB hb; have n3_ := aM (bB BK.out hb); clear HB BK hb hcB0 hcB1; have HB := n2_; have BK := n3_; clear n2_ n3_; have hcB0 := (bC BK.out 0).trans rfl; have hcB1 := (bC BK.out 1).trans rfl))
  go_ret2
  exact ⟨_, rfl, Kd.S_nil _ _ _ _ _, (xH HB.out)⟩
 | true =>
  rw [if_pos rfl] at h
  by_cases c : OKV k l0 a1
  ·
   rw [if_pos c] at h
   cases h
   have HK1 := aM (show l0.length ≤ 8 from c.1)
   have HK2 := aM (show ∀ s t : Nat, s < 256 → t < 256 → impl_compareSets.f k (bitsV s) (bitsV t) = some (cfS (bitsV s) (bitsV t)) from fun s t hs ht => c.2.2.1 s hs t ht)
   have HK3 := aM (show impl_Vote_all.f l0 a1 = some (((2 ^ l0.length : Nat) : Int) - 1) from c.2.2.2)
   have HWI := aM (show ∀ t : Nat, t < 256 → ∃ b, impl_Vote_wins.f k l0 a1 (t : Int) = some b from fun t ht => Option.isSome_iff_exists.1 (c.2.1 t ht))
   have HP := aM (show 2 ^ l0.length ≤ 256 from Nat.pow_le_pow_right (n := 2) (by decide) c.1)
   clear c
   have hfn : ∀ (gb : Nat) (w4 : World), Below w.heap.size w w4 → w4.heap[gb]? = some (.cells #[.slice A0 l0.length c0, .int .i64 a1] 26 (0, 0)) → ∀ s : Nat, s < 2 ^ l0.length → ∀ W, Below w4.heap.size w4 W → Calls Tryd.prog 44 (Array.push #[] (.int .i64 (s : Int)) ++ #[.pointer (some ⟨gb, 0, none⟩)]) W fun e W' => e = .returned (.bool (lossV k l0 a1 s)) ∧ Below W.heap.size W W' := by
    intro gb w4 hB4 hBK s hs W hW
    refine (loss_closure k l0 A0 c0 a1 gb s (Nat.lt_of_lt_of_le hs HP.out) HK1.out hs HK3.out W (bB hBK hW) (Kd.C_below HR0.out (below_step hB4 hW)) HC0.out (Nat.lt_of_lt_of_le HG.out (Nat.le_trans (below_size hB4) (below_size hW))) (tab_below HT.out HG.out (below_step hB4 hW)) HWI.out).mono ?_
    rintro e W' h_
    exact h_
   have HFN := aM hfn
   clear hfn
   go_enter Tryd.func12, Tryd.ntmps12
   go_wp2_with (first | (refine yB 1 #[.slice A0 l0.length c0, .int .i64 a1] 26 ?_; intro gb hg wb hbox hb; have n0_ := yS0 HB hb; have BK := aM hbox; have GE := yV0 hg HB; have HLT := aM (blk_lt hbox); clear HB; have HB := n0_; clear n0_ hb hbox hg; have hcB0 := (bC BK.out 0).trans rfl; have hcB1 := (bC BK.out 1).trans rfl) | (go_at_call 10; (with_reducible refine (impl_IsVote.calls k A0 c0 l0 a1 true _ (Kd.C_below HR0.out (xH HB.out)) HC0.out HV.out).mono ?_); rintro e w3 ⟨rfl, hb⟩; have n2_ := yS0 HB hb; have n3_ := aM (bB BK.out hb); clear HB BK hb hcB0 hcB1; have HB := n2_; have BK := n3_; clear n2_ n3_; have hcB0 := (bC BK.out 0).trans rfl; have hcB1 := (bC BK.out 1).trans rfl) | (go_at_call 35; (with_reducible refine (sets_calls l0 A0 c0 a1 HK1.out (2 ^ l0.length) rfl HK3.out k HK2.out 44 Tryd.f44 Tryd.func44 (by kernel_rfl) rfl #[] #[.pointer (some ⟨gb, 0, none⟩)] (lossV k l0 a1) _ (Nat.lt_of_lt_of_le HG.out (below_size (xH HB.out))) (tab_below HT.out HG.out (xH HB.out)) (Kd.C_below HR0.out (xH HB.out)) HC0.out (HFN.out gb _ (xH HB.out) BK.out)).mono ?_); rintro e w5 ⟨vr, rfl, hr, hb⟩; have HS := aM (Kd.S_lower hr (below_size (xH HB.out))); have n2_ := yS0 HB hb; clear HB hr hb; have HB := n2_; clear n2_))
   go_ret2
   exact ⟨_, rfl, HS.out, (xH HB.out)⟩
  ·
   rw [if_neg c] at h; cases h
def spec_GreatestLosses.f (k : Nat) (l0_0 : List Int) (a0_1 : Int) : Option ((List (List Int)) × Bool) := (spec_l6Vote.f k l0_0 a0_1).bind fun t351 => (if t351 = true then ((spec_l6Edges.f k l0_0 a0_1 false).bind fun t352 => (some (t352, true))) else (some ((([] : List (List Int))), false)))
theorem spec_GreatestLosses.calls (k : Nat) (A0_0 : Option Addr) (c0_0 : Nat) (l0_0 : List Int) (a0_1 : Int) (r1 : List (List Int)) (r2 : Bool) (w : World) (hr0_0 : Kd.C (Kd.int .i64) w A0_0 l0_0.length l0_0) (hc0_0 : l0_0.length ≤ c0_0) (h : spec_GreatestLosses.f k l0_0 a0_1 = some (r1, r2)) :
  Calls Tryd.prog 13 #[.agg #[.slice A0_0 l0_0.length c0_0, .int .i64 a0_1]] w fun e w' => ∃ v0_ : Value, e = .returned (.tuple #[v0_, .bool r2]) ∧ Kd.N (Kd.slice 3 (Kd.int .i64)) 24 w' w.heap.size (fun k_ => (w.heap.size ≤ k_)) v0_ r1 ∧ Below w.heap.size w w' := by
 have hu26 := Tryd.underlying26
 have HR0_0 := aM hr0_0
 have HC0_0 := aM hc0_0
 clear hr0_0 hc0_0
 have HB := aM (Below.refl w.heap.size w)
 have H : ((spec_l6Vote.f k l0_0 a0_1).bind fun t351 => (if t351 = true then ((spec_l6Edges.f k l0_0 a0_1 false).bind fun t352 => (some (t352, true))) else (some ((([] : List (List Int))), false)))) = some (r1, r2) := h
 clear h
 replace H := oB.mp H
 obtain ⟨t351, A20, H⟩ := H
 replace H : (if t351 = true then ((spec_l6Edges.f k l0_0 a0_1 false).bind fun t352 => (some (t352, true))) else (some ((([] : List (List Int))), false))) = some (r1, r2) := H
 have A2 := aM A20
 clear A20
 by_cases c3 : t351 = true
 ·
  subst c3
  have H1 : ((spec_l6Edges.f k l0_0 a0_1 false).bind fun t352 => (some (t352, true))) = some (r1, r2) := by rw [if_pos rfl] at H; exact H
  clear H
  have H := H1
  clear H1
  replace H := oB.mp H
  obtain ⟨t352, A40, H⟩ := H
  replace H : (some (t352, true)) = some (r1, r2) := H
  have A4 := aM A40
  clear A40
  simp only [Option.some.injEq, Prod.mk.injEq] at H
  obtain ⟨rfl, rfl⟩ := H
  go_enter Tryd.func13, Tryd.ntmps13
  go_wp2_with (first | (refine yB 1 #[.slice A0_0 l0_0.length c0_0, .int .i64 a0_1] 26 ?_; intro gb350 hg w5 hbox hb; have BK350 := aM (hbox); have GW350 := yV0 hg HB; have GE350 := yV0 hg HB; replace HB := yS0 HB hb; clear hb hbox hg; obtain ⟨hcz6_0, hcz6_1, hfz6_0, hfz6_1⟩ := yD2 BK350) | (refine yL 5 Tryd.func38 #[.agg #[.slice A0_0 l0_0.length c0_0, .int .i64 a0_1]] ?_; (with_reducible refine (spec_l6Vote.calls k _ _ l0_0 a0_1 true _ ?side1 ?side2 A2.out).mono ?_); (case side1 => exact xC (Kd.C_below HR0_0.out HB.out)); (case side2 => exact HC0_0.out); rintro e w7 ⟨rfl, hb⟩; refine ⟨_, rfl, ?_⟩; replace BK350 := yK BK350 hb; replace HB := yS1 HB GE350 hb; (try clear hb; try clear hb2; try clear hk; try clear hi); obtain ⟨hcz8_0, hcz8_1, hfz8_0, hfz8_1⟩ := yD2 BK350) | (refine yL 9 Tryd.func39 #[.agg #[.slice A0_0 l0_0.length c0_0, .int .i64 a0_1], .bool false] ?_; (with_reducible refine (spec_l6Edges.calls k _ _ l0_0 a0_1 false t352 _ ?side1 ?side2 A4.out).mono ?_); (case side1 => exact xC (Kd.C_below HR0_0.out HB.out)); (case side2 => exact HC0_0.out); rintro e w9 ⟨v353, rfl, ho0, hb⟩; refine ⟨_, rfl, ?_⟩; have HO354 := aM (Kd.N_lower (Kd.N_mono (ok' := fun k_ => (w.heap.size ≤ k_) ∧ k_ ≠ gb350) ho0 (fun k_ hk_ => ⟨(Nat.le_trans (below_size (xG1 HB.out GE350.out)) hk_), (Kd.freshB (g := gb350) (o := .cells #[.slice A0_0 l0_0.length c0_0, .int .i64 a0_1] 26 (0, 0)) (xB BK350.out) k_ hk_)⟩)) (below_size (xG1 HB.out GE350.out))); replace BK350 := yK BK350 hb; replace HB := yS1 HB GE350 hb; (try clear hb; try clear hb2; try clear hk; try clear hi; try clear ho0)))
  go_ret2
  exact ⟨_, yF, zN (Kd.N_mono HO354.out (fun _ hk => hk.1)), xG1 HB.out GE350.out⟩
 ·
  replace c3 := Bool.eq_false_iff.mpr c3
  subst c3
  have H1 : (some ((([] : List (List Int))), false)) = some (r1, r2) := by rw [if_neg (show ¬ (false = true) by decide)] at H; exact H
  clear H
  have H := H1
  clear H1
  obtain ⟨y355, hy355⟩ := yE (([] : List (List Int)) : List (List Int))
  replace H : (some (y355, false)) = some (r1, r2) := by first | (rw [hy355]; with_reducible exact H) | (have H2_ := (Option.bind_some _ _).symm.trans H; rw [hy355]; with_reducible exact H2_) | (have H2_ := (Option.bind_some _ _).symm.trans H; with_reducible exact H2_) | with_reducible exact H | (rw [hy355]; exact H) | exact H
  have Ny355 := aM hy355
  clear hy355
  simp only [Option.some.injEq, Prod.mk.injEq] at H
  obtain ⟨rfl, rfl⟩ := H
  go_enter Tryd.func13, Tryd.ntmps13
  go_wp2_with (first | (refine yB 1 #[.slice A0_0 l0_0.length c0_0, .int .i64 a0_1] 26 ?_; intro gb350 hg w10 hbox hb; have BK350 := aM (hbox); have GW350 := yV0 hg HB; have GE350 := yV0 hg HB; replace HB := yS0 HB hb; clear hb hbox hg; obtain ⟨hcz11_0, hcz11_1, hfz11_0, hfz11_1⟩ := yD2 BK350) | (refine yL 5 Tryd.func38 #[.agg #[.slice A0_0 l0_0.length c0_0, .int .i64 a0_1]] ?_; (with_reducible refine (spec_l6Vote.calls k _ _ l0_0 a0_1 false _ ?side1 ?side2 A2.out).mono ?_); (case side1 => exact xC (Kd.C_below HR0_0.out HB.out)); (case side2 => exact HC0_0.out); rintro e w12 ⟨rfl, hb⟩; refine ⟨_, rfl, ?_⟩; replace BK350 := yK BK350 hb; replace HB := yS1 HB GE350 hb; (try clear hb; try clear hb2; try clear hk; try clear hi)) | ((with_reducible refine gate_dst (N := 7) rfl ?_); refine Kd.N_lit (Kd.slice 3 (Kd.int .i64)) _ 24 ?hg (N' := 7) ?hd (xs := ([] : List (List Int))) (inner := []) (ok := (fun k_ => (w.heap.size ≤ k_) ∧ k_ ≠ gb350)) (okp := (fun k_ => (w.heap.size ≤ k_) ∧ k_ ≠ gb350)) ?hr ?hp (fun _ hk => hk) ((show ∀ k_, w12.heap.size ≤ k_ → (fun k_ => (w.heap.size ≤ k_) ∧ k_ ≠ gb350) k_ from fun k_ hk => ⟨(Nat.le_trans (below_size (xG1 HB.out GE350.out)) hk), Kd.freshB (g := gb350) (o := .cells #[.slice A0_0 l0_0.length c0_0, .int .i64 a0_1] 26 (0, 0)) (xB BK350.out) k_ hk⟩) _ (Nat.le_refl _)) (Below.refl _ _) (Nat.le_refl _) (by simp) ?_; (case hd => rfl); (case hg => rfl); (case hr => first | (go_simp; done) | (go_simp; rfl)); (case hp => exact (Reps.none _ _)); intro v356 w13 ho14 hb hg_ hnew_; clear hg_ hnew_; (first | rw [← Ny355.out] at ho14 | (simp only [Int.reduceToNat] at ho14; rw [← Ny355.out] at ho14)); have HO357 := aM (Kd.N_lower ho14 (below_size (xG1 HB.out GE350.out))); replace BK350 := yK BK350 hb; replace HB := yS1 HB GE350 hb; clear hb ho14))
  go_ret2
  exact ⟨_, yF, zN (Kd.N_mono HO357.out (fun _ hk => hk.1)), xG1 HB.out GE350.out⟩
def impl_CountWins.f (k : Nat) (l0 : List Int) (a1 : Int) : Option (Int × Bool) := (impl_IsVote.f k l0 a1).bind fun t => if t = true then (if OKV k l0 a1 then some ((((List.range (2 ^ l0.length)).filter (winV k l0 a1)).length : Int), true) else none) else some (0, false)
theorem impl_CountWins.calls (k : Nat) (A0 : Option Addr) (c0 : Nat) (l0 : List Int) (a1 : Int) (r1 : Int) (r2 : Bool) (w : World) (hr0 : Kd.C (Kd.int .i64) w A0 l0.length l0) (hc0 : l0.length ≤ c0) (h : impl_CountWins.f k l0 a1 = some (r1, r2))
  (hg : 1 < w.heap.size) (hT : Go.Proofs.TabAt 1 Lib.deBruijn64tab w) :
  Calls Tryd.prog 14 #[.agg #[.slice A0 l0.length c0, .int .i64 a1]] w fun e w' => e = .returned (.tuple #[.int .i64 r1, .bool r2]) ∧ Below w.heap.size w w' := by
 unfold impl_CountWins.f at h
 obtain ⟨t, hv, h⟩ := oB.mp h
 have HV := aM hv
 have HR0 := aM hr0
 have HC0 := aM hc0
 have HG := aM hg
 have HT := aM hT
 have HB := aM (Below.refl w.heap.size w)
 have hu28 := Tryd.underlying26
 clear hv hr0 hc0 hg hT
 cases t with
 | false =>
  rw [if_neg (by simp)] at h
  cases h
  go_enter Tryd.func14, Tryd.ntmps14
  go_wp2_with (first | (refine yB 1 #[.slice A0 l0.length c0, .int .i64 a1] 26 ?_; intro gb hg wb hbox hb; have n0_ := yS0 HB hb; have BK := aM hbox; have GE := yV0 hg HB; have HLT := aM (blk_lt hbox); clear HB; have HB := n0_; clear n0_ hb hbox hg; have hcB0 := (bC BK.out 0).trans rfl; have hcB1 := (bC BK.out 1).trans rfl) | (go_at_call 10; (with_reducible refine (impl_IsVote.calls k A0 c0 l0 a1 false _ (Kd.C_below HR0.out (xH HB.out)) HC0.out HV.out).mono ?_); rintro e w3 ⟨rfl, hb⟩; have n2_ := yS0 HB hb; have n3_ := aM (bB BK.out hb); clear HB BK hb hcB0 hcB1; have HB := n2_; have BK := n3_; clear n2_ n3_; have hcB0 := (bC BK.out 0).trans rfl; have hcB1 := (bC BK.out 1).trans rfl))
  go_ret2
  exact ⟨rfl, (xH HB.out)⟩
 | true =>
  rw [if_pos rfl] at h
  by_cases c : OKV k l0 a1
  ·
   rw [if_pos c] at h
   cases h
   have HK1 := aM (show l0.length ≤ 8 from c.1)
   have HK2 := aM (show ∀ s t : Nat, s < 256 → t < 256 → impl_compareSets.f k (bitsV s) (bitsV t) = some (cfS (bitsV s) (bitsV t)) from fun s t hs ht => c.2.2.1 s hs t ht)
   have HK3 := aM (show impl_Vote_all.f l0 a1 = some (((2 ^ l0.length : Nat) : Int) - 1) from c.2.2.2)
   have HWI := aM (show ∀ t : Nat, t < 256 → ∃ b, impl_Vote_wins.f k l0 a1 (t : Int) = some b from fun t ht => Option.isSome_iff_exists.1 (c.2.1 t ht))
   have HP := aM (show 2 ^ l0.length ≤ 256 from Nat.pow_le_pow_right (n := 2) (by decide) c.1)
   clear c
   have hfn : ∀ (gb : Nat) (w4 : World), Below w.heap.size w w4 → w4.heap[gb]? = some (.cells #[.slice A0 l0.length c0, .int .i64 a1] 26 (0, 0)) → ∀ s : Nat, s < 2 ^ l0.length → ∀ W, Below w4.heap.size w4 W → Calls Tryd.prog 31 (Array.push #[.agg #[.slice A0 l0.length c0, .int .i64 a1]] (.int .i64 (s : Int)) ++ #[]) W fun e W' => e = .returned (.bool (winV k l0 a1 s)) ∧ Below W.heap.size W W' := by
    intro gb w4 hB4 hBK s hs W hW
    obtain ⟨b, hb⟩ := HWI.out s (Nat.lt_of_lt_of_le hs HP.out)
    refine (impl_Vote_wins.calls k A0 c0 l0 a1 (s : Int) b W (Kd.C_below HR0.out (below_step hB4 hW)) HC0.out hb).mono ?_
    rintro e W' ⟨rfl, h_⟩
    exact ⟨by show _ = Ending.returned (.bool (winV k l0 a1 s)); unfold winV; rw [hb]; rfl, h_⟩
   have HFN := aM hfn
   clear hfn
   go_enter Tryd.func14, Tryd.ntmps14
   go_wp2_with (first | (refine yB 1 #[.slice A0 l0.length c0, .int .i64 a1] 26 ?_; intro gb hg wb hbox hb; have n0_ := yS0 HB hb; have BK := aM hbox; have GE := yV0 hg HB; have HLT := aM (blk_lt hbox); clear HB; have HB := n0_; clear n0_ hb hbox hg; have hcB0 := (bC BK.out 0).trans rfl; have hcB1 := (bC BK.out 1).trans rfl) | (go_at_call 10; (with_reducible refine (impl_IsVote.calls k A0 c0 l0 a1 true _ (Kd.C_below HR0.out (xH HB.out)) HC0.out HV.out).mono ?_); rintro e w3 ⟨rfl, hb⟩; have n2_ := yS0 HB hb; have n3_ := aM (bB BK.out hb); clear HB BK hb hcB0 hcB1; have HB := n2_; have BK := n3_; clear n2_ n3_; have hcB0 := (bC BK.out 0).trans rfl; have hcB1 := (bC BK.out 1).trans rfl) | (go_at_call 35; (with_reducible refine (sets_calls l0 A0 c0 a1 HK1.out (2 ^ l0.length) rfl HK3.out k HK2.out 31 Tryd.f31 Tryd.func31 (by kernel_rfl) rfl #[.agg #[.slice A0 l0.length c0, .int .i64 a1]] #[] (winV k l0 a1) _ (Nat.lt_of_lt_of_le HG.out (below_size (xH HB.out))) (tab_below HT.out HG.out (xH HB.out)) (Kd.C_below HR0.out (xH HB.out)) HC0.out (HFN.out gb _ (xH HB.out) BK.out)).mono ?_); rintro e w5 ⟨vr, rfl, hr, hb⟩; have HS := aM (Kd.S_lower hr (below_size (xH HB.out))); have n2_ := yS0 HB hb; clear HB hr hb; have HB := n2_; clear n2_; obtain ⟨As, cs, rfl⟩ := Kd.S_slice HS.out))
   go_ret2
   refine ⟨?_, (xH HB.out)⟩
   simp only [sortL, List.length_mergeSort, List.length_map]
   rfl
  ·
   rw [if_neg c] at h; cases h
def spec_CountWins.l0 : Nat → Int → List Bool → Int → Option (Int × Bool)
 | 0, _, _, _ => none
 | k + 1, x4, x5, x6 => if x6 < (x5.length : Int) then (if 0 ≤ x6 then (if rdOf false x5 x6 = true then (spec_CountWins.l0 k (wrap64 (x4 + 1)) x5 (wrap64 (x6 + 1))) else (spec_CountWins.l0 k x4 x5 (wrap64 (x6 + 1)))) else (none)) else (some (x4, true))
def spec_CountWins.f (k : Nat) (l0_0 : List Int) (a0_1 : Int) : Option (Int × Bool) := (spec_l6Vote.f k l0_0 a0_1).bind fun t359 => (if t359 = true then ((spec_l6Wins.f k l0_0 a0_1).bind fun t360 => (spec_CountWins.l0 k 0 t360 0)) else (some (0, false)))
theorem spec_CountWins.calls (k : Nat) (A0_0 : Option Addr) (c0_0 : Nat) (l0_0 : List Int) (a0_1 : Int) (r1 : Int) (r2 : Bool) (w : World) (hr0_0 : Kd.C (Kd.int .i64) w A0_0 l0_0.length l0_0) (hc0_0 : l0_0.length ≤ c0_0) (h : spec_CountWins.f k l0_0 a0_1 = some (r1, r2)) :
  Calls Tryd.prog 15 #[.agg #[.slice A0_0 l0_0.length c0_0, .int .i64 a0_1]] w fun e w' => e = .returned (.tuple #[.int .i64 r1, .bool r2]) ∧ Below w.heap.size w w' := by
 have hu26 := Tryd.underlying26
 have HR0_0 := aM hr0_0
 have HC0_0 := aM hc0_0
 clear hr0_0 hc0_0
 have HB := aM (Below.refl w.heap.size w)
 have H : ((spec_l6Vote.f k l0_0 a0_1).bind fun t359 => (if t359 = true then ((spec_l6Wins.f k l0_0 a0_1).bind fun t360 => (spec_CountWins.l0 k 0 t360 0)) else (some (0, false)))) = some (r1, r2) := h
 clear h
 replace H := oB.mp H
 obtain ⟨t359, A20, H⟩ := H
 replace H : (if t359 = true then ((spec_l6Wins.f k l0_0 a0_1).bind fun t360 => (spec_CountWins.l0 k 0 t360 0)) else (some (0, false))) = some (r1, r2) := H
 have A2 := aM A20
 clear A20
 by_cases c3 : t359 = true
 ·
  subst c3
  have H1 : ((spec_l6Wins.f k l0_0 a0_1).bind fun t360 => (spec_CountWins.l0 k 0 t360 0)) = some (r1, r2) := by rw [if_pos rfl] at H; exact H
  clear H
  have H := H1
  clear H1
  replace H := oB.mp H
  obtain ⟨t360, A40, H⟩ := H
  replace H : (spec_CountWins.l0 k 0 t360 0) = some (r1, r2) := H
  have A4 := aM A40
  clear A40
  have H' := aM H
  clear H
  go_enter Tryd.func15, Tryd.ntmps15
  go_wp2_with (first | (refine yB 1 #[.slice A0_0 l0_0.length c0_0, .int .i64 a0_1] 26 ?_; intro gb358 hg w5 hbox hb; have BK358 := aM (hbox); have GW358 := yV0 hg HB; have GE358 := yV0 hg HB; replace HB := yS0 HB hb; clear hb hbox hg; obtain ⟨hcz6_0, hcz6_1, hfz6_0, hfz6_1⟩ := yD2 BK358) | (refine yL 8 Tryd.func38 #[.agg #[.slice A0_0 l0_0.length c0_0, .int .i64 a0_1]] ?_; (with_reducible refine (spec_l6Vote.calls k _ _ l0_0 a0_1 true _ ?side1 ?side2 A2.out).mono ?_); (case side1 => exact xC (Kd.C_below HR0_0.out HB.out)); (case side2 => exact HC0_0.out); rintro e w7 ⟨rfl, hb⟩; refine ⟨_, rfl, ?_⟩; replace BK358 := yK BK358 hb; replace HB := yS1 HB GE358 hb; (try clear hb; try clear hb2; try clear hk; try clear hi); obtain ⟨hcz8_0, hcz8_1, hfz8_0, hfz8_1⟩ := yD2 BK358) | (refine yL 11 Tryd.func34 #[.agg #[.slice A0_0 l0_0.length c0_0, .int .i64 a0_1]] ?_; (with_reducible refine (spec_l6Wins.calls k _ _ l0_0 a0_1 t360 _ ?side1 ?side2 A4.out).mono ?_); (case side1 => exact xC (Kd.C_below HR0_0.out HB.out)); (case side2 => exact HC0_0.out); rintro e w9 ⟨v361, rfl, ho0, hb⟩; refine ⟨_, rfl, ?_⟩; have HO362 := aM (Kd.R_lower ho0 (below_size (xG1 HB.out GE358.out))); replace BK358 := yK BK358 hb; replace HB := yS1 HB GE358 hb; (try clear hb; try clear hb2; try clear hk; try clear hi; try clear ho0)))
  go_loopg [4, 6] k (fun kq v4 v6 w' => ∃ (x4_1 : Int) (x6_1 : Int), v4 = .int .i64 x4_1 ∧ v6 = .int .i64 x6_1 ∧ Aside0 (spec_CountWins.l0 kq x4_1 t360 x6_1 = some (r1, r2)) ∧ Aside0 (kq ≤ k) ∧ Aside0 (Kd.R Kd.bool 4 w' w.heap.size (fun _ => True) v361 t360) ∧ Aside0 (w'.heap[gb358]? = some (.cells #[(.slice A0_0 l0_0.length c0_0), .int .i64 a0_1] 26 (0, 0))) ∧ Aside0 (Below w.heap.size w w'))
  case atStart => exact ⟨(0), (0), yZ, yZ, H', ⟨Nat.le_refl _⟩, ⟨xR HO362.out⟩, ⟨xB BK358.out⟩, ⟨xG1 HB.out GE358.out⟩⟩
  case round =>
   clear H'
   try clear c1; try clear p2; try clear c3; try clear hcz6_0; try clear hcz6_1; try clear hcz8_0; try clear hcz8_1; try clear hfz6_0; try clear hfz6_1; try clear hfz8_0; try clear hfz8_1
   obtain ⟨x4_1, x6_1, rfl, rfl, HA, HK1, HO_5, BK358, HB⟩ := hrel
   cases gk with
   | zero => exact absurd HA.out (by simp [spec_CountWins.l0])
   | succ k1 =>
    have H := HA.out
    clear HA
    simp only [spec_CountWins.l0] at H
    by_cases c10 : x6_1 < (t360.length : Int)
    ·
     rw [if_pos c10] at H
     have c10b0 := decide_eq_true c10
     clear c10
     by_cases c11 : 0 ≤ x6_1
     ·
      rw [if_pos c11] at H
      have c11b0 := decide_eq_true c11
      clear c11
      obtain ⟨bq12, hbq12⟩ : ∃ b_ : Bool, b_ = (rdOf false t360 x6_1) := ⟨_, rfl⟩
      replace H : (if bq12 = true then (spec_CountWins.l0 k1 (wrap64 (x4_1 + 1)) t360 (wrap64 (x6_1 + 1))) else (spec_CountWins.l0 k1 x4_1 t360 (wrap64 (x6_1 + 1)))) = some (r1, r2) := by rw [← hbq12] at H; exact H
      have Nbq12 := aM hbq12
      clear hbq12
      by_cases c13 : bq12 = true
      ·
       subst c13
       have H1 : (spec_CountWins.l0 k1 (wrap64 (x4_1 + 1)) t360 (wrap64 (x6_1 + 1))) = some (r1, r2) := by rw [if_pos rfl] at H; exact H
       clear H
       have H := H1
       clear H1
       have H' := aM H
       clear H
       obtain ⟨Ao14, co14, eo14⟩ := Kd.R_slice HO_5.out
       subst eo14
       have p363 : 0 ≤ (x6_1 : Int) := yA
       have q363 : x6_1 < (t360.length : Int) := yA
       obtain ⟨ad363, e363, hx363_0⟩ := Kd.at_bool (Kd.R_reads' HO_5.out).2.2 x6_1 p363 q363
       (try rw [← Nbq12.out] at hx363_0)
       cases e363
       replace p363 := eq_true p363
       replace q363 := eq_true q363
       go_wp2
       go_roundg k1
       case measure => have := HK1.out; omega
       case rel => exact ⟨(wrap64 (x4_1 + 1)), (wrap64 (x6_1 + 1)), yZ, yZ, H', ⟨by have := HK1.out; omega⟩, ⟨xR HO_5.out⟩, ⟨xB BK358.out⟩, ⟨xG1 HB.out GE358.out⟩⟩
      ·
       replace c13 := Bool.eq_false_iff.mpr c13
       subst c13
       have H1 : (spec_CountWins.l0 k1 x4_1 t360 (wrap64 (x6_1 + 1))) = some (r1, r2) := by rw [if_neg (show ¬ (false = true) by decide)] at H; exact H
       clear H
       have H := H1
       clear H1
       have H' := aM H
       clear H
       obtain ⟨Ao15, co15, eo15⟩ := Kd.R_slice HO_5.out
       subst eo15
       have p363 : 0 ≤ (x6_1 : Int) := yA
       have q363 : x6_1 < (t360.length : Int) := yA
       obtain ⟨ad363, e363, hx363_0⟩ := Kd.at_bool (Kd.R_reads' HO_5.out).2.2 x6_1 p363 q363
       (try rw [← Nbq12.out] at hx363_0)
       cases e363
       replace p363 := eq_true p363
       replace q363 := eq_true q363
       go_wp2
       go_roundg k1
       case measure => have := HK1.out; omega
       case rel => exact ⟨(x4_1), (wrap64 (x6_1 + 1)), yZ, yZ, H', ⟨by have := HK1.out; omega⟩, ⟨xR HO_5.out⟩, ⟨xB BK358.out⟩, ⟨xG1 HB.out GE358.out⟩⟩
     ·
      rw [if_neg c11] at H
      exact absurd H (by simp)
    ·
     rw [if_neg c10] at H
     have c10b0 := decide_eq_false c10
     clear c10
     simp only [Option.some.injEq, Prod.mk.injEq] at H
     obtain ⟨rfl, rfl⟩ := H
     obtain ⟨Ao16, co16, eo16⟩ := Kd.R_slice HO_5.out
     subst eo16
     go_wp2
     go_ret2
     exact ⟨yF, xG1 HB.out GE358.out⟩
 ·
  replace c3 := Bool.eq_false_iff.mpr c3
  subst c3
  have H1 : (some (0, false)) = some (r1, r2) := by rw [if_neg (show ¬ (false = true) by decide)] at H; exact H
  clear H
  have H := H1
  clear H1
  simp only [Option.some.injEq, Prod.mk.injEq] at H
  obtain ⟨rfl, rfl⟩ := H
  go_enter Tryd.func15, Tryd.ntmps15
  go_wp2_with (first | (refine yB 1 #[.slice A0_0 l0_0.length c0_0, .int .i64 a0_1] 26 ?_; intro gb358 hg w17 hbox hb; have BK358 := aM (hbox); have GW358 := yV0 hg HB; have GE358 := yV0 hg HB; replace HB := yS0 HB hb; clear hb hbox hg; obtain ⟨hcz18_0, hcz18_1, hfz18_0, hfz18_1⟩ := yD2 BK358) | (refine yL 8 Tryd.func38 #[.agg #[.slice A0_0 l0_0.length c0_0, .int .i64 a0_1]] ?_; (with_reducible refine (spec_l6Vote.calls k _ _ l0_0 a0_1 false _ ?side1 ?side2 A2.out).mono ?_); (case side1 => exact xC (Kd.C_below HR0_0.out HB.out)); (case side2 => exact HC0_0.out); rintro e w19 ⟨rfl, hb⟩; refine ⟨_, rfl, ?_⟩; replace BK358 := yK BK358 hb; replace HB := yS1 HB GE358 hb; (try clear hb; try clear hb2; try clear hk; try clear hi)))
  go_ret2
  exact ⟨yF, xG1 HB.out GE358.out⟩
def impl_copied.f (l0 : List Int) : Option (List Int) := (some (([] : List Int) : List Int)).bind fun y364 => (if y364.length + l0.length < 17592186044416 then (some (y364 ++ l0)) else (none))
theorem impl_copied.calls (A0 : Option Addr) (c0 : Nat) (l0 : List Int) (r : List Int) (w : World) (hr0 : Kd.C (Kd.int .i64) w A0 l0.length l0) (hc0 : l0.length ≤ c0) (h : impl_copied.f l0 = some r) :
  Calls Tryd.prog 46 #[.slice A0 l0.length c0] w fun e w' => ∃ v0_ : Value, e = .returned (v0_) ∧ Kd.R (Kd.int .i64) 3 w' w.heap.size (fun _ => True) v0_ r ∧ Below w.heap.size w w' := by
 have HR0 := aM hr0
 have HC0 := aM hc0
 clear hr0 hc0
 have HB := aM (Below.refl w.heap.size w)
 have H : ((some (([] : List Int) : List Int)).bind fun y364 => (if y364.length + l0.length < 17592186044416 then (some (y364 ++ l0)) else (none))) = some r := h
 clear h
 obtain ⟨y364, hy364⟩ := yE (([] : List Int) : List Int)
 replace H : (if y364.length + l0.length < 17592186044416 then (some (y364 ++ l0)) else (none)) = some r := by first | (rw [hy364]; with_reducible exact H) | (have H2_ := (Option.bind_some _ _).symm.trans H; rw [hy364]; with_reducible exact H2_) | (have H2_ := (Option.bind_some _ _).symm.trans H; with_reducible exact H2_) | with_reducible exact H | (rw [hy364]; exact H) | exact H
 have Ny364 := aM hy364
 clear hy364
 by_cases c2 : y364.length + l0.length < 17592186044416
 ·
  rw [if_pos c2] at H
  have LMc2 := aM c2
  clear c2
  obtain ⟨y367, hy367⟩ := yE (y364 ++ l0 : List Int)
  replace H : (some y367) = some r := by first | (rw [hy367]; with_reducible exact H) | (have H2_ := (Option.bind_some _ _).symm.trans H; rw [hy367]; with_reducible exact H2_) | (have H2_ := (Option.bind_some _ _).symm.trans H; with_reducible exact H2_) | with_reducible exact H | (rw [hy367]; exact H) | exact H
  have Ny367 := aM hy367
  clear hy367
  obtain rfl := Option.some.inj H
  go_enter Tryd.func46, Tryd.ntmps46
  go_wp2_with (first | ((with_reducible refine gate_dst (N := 3) rfl ?_); refine Kd.R_lit (Kd.int .i64) _ 3 ?hg (N := 3) ?hd (xs := ([] : List Int)) (inner := []) (ok := fun _ => True) (okp := fun _ => True) ?hr ?hp (fun _ hk => hk) trivial (Below.refl _ _) (Nat.le_refl _) (by simp) ?_; (case hd => rfl); (case hg => rfl); (case hr => first | (go_simp; done) | (go_simp; rfl)); (case hp => exact (Reps.none _ _)); intro v365 w3 ho4 hb hg_ hnew_; clear hg_ hnew_; (first | rw [← Ny364.out] at ho4 | (simp only [Int.reduceToNat] at ho4; rw [← Ny364.out] at ho4)); have HO366 := aM (Kd.R_lower ho4 (below_size (xH HB.out))); replace HB := yS0 HB hb; clear hb ho4) | ((with_reducible refine gate_builtin (b := .append) (xs := #[.tmp 3, .tmp 4]) rfl ?_); at_builtin; refine Kd.R_append_rows (Kd.int .i64) (w0 := w) w.heap.size rfl (.tmp 3) (.tmp 4) 24 3 (.int .i64 0) 8 rfl Tryd.underlying24 info3 rfl (by decide) (by omega) v365 y364 l0 _ _ _ (fun _ => True) (fun _ => False) rfl rfl ?aO ?aR (fun _ _ h => h) (fun _ h => h.elim) ?aF ?aB ?aS ?aL ?_; (case aR => exact xC (Kd.C_below HR0.out HB.out)); (case aB => exact (xH HB.out)); (case aF => exact (fun _ _ => trivial)); (case aO => exact (xR HO366.out)); (case aS => exact (below_size (xH HB.out))); (case aL => have := LMc2.out; omega); intro v368 w5 ho hb hg hat; rw [← Ny367.out] at ho; replace HB := aM (hb); have HO369 := aM (ho); clear HO366; clear ho hb hg hat))
  go_ret
  exact ⟨_, yF, xR HO369.out, by repeat (first | (with_reducible first | exact HB.out | apply eA | apply eN | apply eD) | exact HB.out)⟩
 ·
  rw [if_neg c2] at H
  exact absurd H (by simp)
def impl_DualVote.f (k : Nat) (l0_0 : List Int) (a0_1 : Int) : Option (List Int × Int × Bool) := (impl_IsVote.f k l0_0 a0_1).bind fun t372 => (if t372 = true then ((impl_copied.f l0_0).bind fun t373 => ((impl_total.f k l0_0).bind fun t376 => (some (t373, wrap64 ((wrap64 (t376 + 1)) - a0_1), true)))) else (some (([] : List Int), 0, false)))
def impl_DualVote.T3 : Bool × List (List Nat × List Nat) := (true, [([], []), ([0], [0]), ([1], [1]), ([], []), ([3], [3]), ([4, 2], [4]), ([5], [5]), ([], []), ([7], [7]), ([6, 8], [6, 8]), ([2, 9], [2, 9]), ([10, 5, 0, 1, 2, 3, 4, 5, 6, 7, 8, 9, 10], [10]), ([11, 0, 1, 2, 3, 4, 5, 6, 7, 8, 9, 10, 11], [])])
def impl_DualVote.B3 : List Nat := [0, 1, 3, 0, 8, 31, 63, 0, 128, 511, 1023, 2047, 4095]
theorem impl_DualVote.tab3 : rtab .any (opsOf Tryd.f16 3) = impl_DualVote.T3 := by kernel_rfl
theorem impl_DualVote.bits3 : waitsOk impl_DualVote.T3.2 impl_DualVote.B3 = true := by kernel_rfl
theorem impl_DualVote.calls (k : Nat) (A0_0 : Option Addr) (c0_0 : Nat) (l0_0 : List Int) (a0_1 : Int) (r1 : List Int) (r2 : Int) (r3 : Bool) (w : World) (hr0_0 : Kd.C (Kd.int .i64) w A0_0 l0_0.length l0_0) (hc0_0 : l0_0.length ≤ c0_0) (h : impl_DualVote.f k l0_0 a0_1 = some (r1, r2, r3)) :
  Calls Tryd.prog 16 #[.agg #[.slice A0_0 l0_0.length c0_0, .int .i64 a0_1]] w fun e w' => ∃ v0_ : Value, e = .returned (.tuple #[.agg #[v0_, .int .i64 r2], .bool r3]) ∧ Kd.R (Kd.int .i64) 3 w' w.heap.size (fun _ => True) v0_ r1 ∧ Below w.heap.size w w' := by
 have hu26 := Tryd.underlying26
 have HR0_0 := aM hr0_0
 have HC0_0 := aM hc0_0
 clear hr0_0 hc0_0
 have HB := aM (Below.refl w.heap.size w)
 have H : ((impl_IsVote.f k l0_0 a0_1).bind fun t372 => (if t372 = true then ((impl_copied.f l0_0).bind fun t373 => ((impl_total.f k l0_0).bind fun t376 => (some (t373, wrap64 ((wrap64 (t376 + 1)) - a0_1), true)))) else (some (([] : List Int), 0, false)))) = some (r1, r2, r3) := h
 clear h
 replace H := oB.mp H
 obtain ⟨t372, A20, H⟩ := H
 replace H : (if t372 = true then ((impl_copied.f l0_0).bind fun t373 => ((impl_total.f k l0_0).bind fun t376 => (some (t373, wrap64 ((wrap64 (t376 + 1)) - a0_1), true)))) else (some (([] : List Int), 0, false))) = some (r1, r2, r3) := H
 have A2 := aM A20
 clear A20
 by_cases c3 : t372 = true
 ·
  subst c3
  have H1 : ((impl_copied.f l0_0).bind fun t373 => ((impl_total.f k l0_0).bind fun t376 => (some (t373, wrap64 ((wrap64 (t376 + 1)) - a0_1), true)))) = some (r1, r2, r3) := by rw [if_pos rfl] at H; exact H
  clear H
  have H := H1
  clear H1
  replace H := oB.mp H
  obtain ⟨t373, A40, H⟩ := H
  replace H : ((impl_total.f k l0_0).bind fun t376 => (some (t373, wrap64 ((wrap64 (t376 + 1)) - a0_1), true))) = some (r1, r2, r3) := H
  have A4 := aM A40
  clear A40
  replace H := oB.mp H
  obtain ⟨t376, A50, H⟩ := H
  replace H : (some (t373, wrap64 ((wrap64 (t376 + 1)) - a0_1), true)) = some (r1, r2, r3) := H
  have A5 := aM A50
  clear A50
  simp only [Option.some.injEq, Prod.mk.injEq] at H
  obtain ⟨rfl, rfl, rfl⟩ := H
  go_enter Tryd.func16, Tryd.ntmps16
  try go_wp2_with (first | (refine yB 1 #[.slice A0_0 l0_0.length c0_0, .int .i64 a0_1] 26 ?_; intro gb370 hg w6 hbox hb; have BK370 := aM (hbox); have GW370 := yV0 hg HB; have GE370 := yV0 hg HB; replace HB := yS0 HB hb; clear hb hbox hg) | (refine yB 2 #[.slice none 0 0, .int .i64 0] 26 ?_; intro gb371 hg w7 hbox hb; have BK371 := aM (hbox); have GW371 := yV1 hg HB GE370; have GE371 := yV1 hg HB GE370; replace HB := yS1 HB GE370 hb; have NB370_371 := yX hg BK370; have NB371_370 := yY NB370_371; replace BK370 := yK BK370 hb; clear hb hbox hg; have hnb8 := NB370_371.out; have hnc8 := NB371_370.out; obtain ⟨hcz9_0, hcz9_1, hfz9_0, hfz9_1⟩ := yD2 BK370) | (refine yL 5 Tryd.func10 #[.agg #[.slice A0_0 l0_0.length c0_0, .int .i64 a0_1]] ?_; (with_reducible refine (impl_IsVote.calls k _ _ l0_0 a0_1 true _ ?side1 ?side2 A2.out).mono ?_); (case side1 => exact xC (Kd.C_below HR0_0.out HB.out)); (case side2 => exact HC0_0.out); rintro e w10 ⟨rfl, hb⟩; refine ⟨_, rfl, ?_⟩; replace BK370 := yK BK370 hb; replace BK371 := yK BK371 hb; replace HB := yS2 HB GE370 GE371 hb; (try clear hb; try clear hb2; try clear hk; try clear hi)))
  replace BK370 := aM (bD BK370.out)
  replace BK371 := aM (bD BK371.out)
  replace HB := aM (eD HB.out)
  refine start_ (n := 13) (S := fun w' => w'.cell? ⟨gb370, 0, none⟩ = some (.slice A0_0 l0_0.length c0_0) ∧ w'.cell? ⟨gb370, 1, none⟩ = some (.int .i64 a0_1)) (ds := []) (bm 13 0) (by kernel_rfl) rfl rfl ⟨(bC BK370.out 0).trans rfl, (bC BK370.out 1).trans rfl⟩ (fun hHeld => ?_); refine with_tabW impl_DualVote.tab3 impl_DualVote.bits3 (fun HT_ HW_ => ?_)
  generalize w10.drew = w11 at BK370 BK371 HB hHeld ⊢
  refine yP 0 8 (bm 13 1) HT_ ?_
  refine yP 3 11 (bm 13 9) HT_ ?_
  refine yP 7 15 (bm 13 137) HT_ ?_
  refine yT2 1 9 (bm 13 139) HT_ HW_ hHeld ?_
  refine yT2 4 12 (bm 13 155) HT_ HW_ hHeld ?_
  refine yT2 8 16 (bm 13 411) HT_ HW_ hHeld ?_
  refine yO 2 10 (bm 13 415) HT_ (fun K hK => ?_)
  refine yG Tryd.func46 #[.slice A0_0 l0_0.length c0_0] ?_
  with_reducible refine (impl_copied.calls _ _ l0_0 t373 _ ?side1 ?side2 A4.out).mono ?_
  (case side1 => exact xC (Kd.C_below HR0_0.out HB.out))
  (case side2 => exact HC0_0.out)
  rintro e w12 ⟨v374, rfl, ho0, hb⟩
  refine ⟨_, rfl, ?_⟩
  have HO375 := aM (Kd.R_lower ho0 (below_size (xG2 HB.out GE370.out GE371.out)))
  replace BK370 := yK BK370 hb
  replace BK371 := yK BK371 hb
  replace HB := yS2 HB GE370 GE371 hb
  (try clear hb)
  (try clear hb2)
  (try clear hk)
  (try clear hi)
  (try clear ho0)
  refine hK.out _ _ ⟨(bC BK370.out 0).trans rfl, (bC BK370.out 1).trans rfl⟩ (fun hHeld => ?_)
  clear hK K
  refine norm_ (a' := ?_) ?_ ?_
  rotate_left
  ·
   show Act.put _ (some 10) _ = _
   simp only [Act.put, sA, sZ, sU, i64_w, i32_w]
   rfl
  refine yO 5 13 (bm 13 447) HT_ (fun K hK => ?_)
  refine yG Tryd.func42 #[.slice A0_0 l0_0.length c0_0] ?_
  with_reducible refine (impl_total.calls k _ _ l0_0 t376 _ ?side1 ?side2 A5.out).mono ?_
  (case side1 => exact xC (Kd.C_below HR0_0.out HB.out))
  (case side2 => exact HC0_0.out)
  rintro e w' ⟨rfl, ⟨nd, rfl⟩⟩
  refine ⟨_, rfl, ?_⟩
  obtain ⟨Ao13, co13, eo13⟩ := Kd.R_slice HO375.out
  (first | subst eo13 | (injection eo13 with f1_ f2_ f3_; have f4_ := f1_.symm; have f5_ := f3_.symm; clear f1_ f2_ f3_; subst f4_; subst f5_))
  refine hK.out _ _ ⟨(bC BK370.out 0).trans rfl, (bC BK370.out 1).trans rfl⟩ (fun hHeld => ?_)
  clear hK K
  refine norm_ (a' := ?_) ?_ ?_
  rotate_left
  ·
   show Act.put _ (some 13) _ = _
   simp only [Act.put, sA, sZ, sU, i64_w, i32_w]
   rfl
  refine yP 6 14 (bm 13 511) HT_ ?_
  refine yP 9 17 (bm 13 1023) HT_ ?_
  refine yP 10 18 (bm 13 2047) HT_ ?_
  refine one_ (i := 11) (N := none) (bm 13 4095) rfl rfl (one_of HT_.out (by kernel_rfl)) (by decide) (fun K hK => ?_)
  have hs14 : w12.cell? ⟨gb371, 0, none⟩ = some (.slice none 0 0) := (bC BK371.out 0).trans rfl
  have hfs14 := bF BK371.out 0
  have hns14_0 := NB370_371.out
  have hms14_0 := NB371_370.out
  have hs15 : w12.cell? ⟨gb371, 1, none⟩ = some (.int .i64 0) := (bC BK371.out 1).trans rfl
  have hfs15 := bF BK371.out 1
  have hns15_0 := NB370_371.out
  have hms15_0 := NB371_370.out
  refine skip_ (w1 := ?_) (by rfl) rfl ?_ ?_
  rotate_left
  ·
   go_simp
   rfl
  refine hK.out _ _ ⟨((cell_far (p := ⟨gb371, _, none⟩) NB370_371.out _).trans (((cell_far (p := ⟨gb371, _, none⟩) NB370_371.out _).trans (hHeld.1)))), ((cell_far (p := ⟨gb371, _, none⟩) NB370_371.out _).trans (((cell_far (p := ⟨gb371, _, none⟩) NB370_371.out _).trans (hHeld.2))))⟩ (fun hHeld => ?_)
  clear hK K
  refine yP 12 3 (bm 13 8191) HT_ ?_
  refine done_ (done_of HT_.out (by kernel_rfl)) ?_
  try go_wp2
  refine bodyPost_ret (results_ct rfl _ _ gb371 26 #[.slice Ao13 t373.length co13, .int .i64 (wrap64 ((wrap64 (t376 + 1)) - a0_1))] (0, 0) _ rfl (by (with_reducible repeat (first | refine bN ?_ _ | refine bD ?_ | refine bA ?_ _)); refine blk_put (cs := #[.slice Ao13 t373.length co13, .int .i64 0]) ?_ 1 _ rfl; (with_reducible repeat (first | refine bN ?_ _ | refine bD ?_ | refine bA ?_ _)); refine blk_put (cs := #[.slice none 0 0, .int .i64 0]) ?_ 0 _ rfl; (with_reducible repeat (first | refine bN ?_ _ | refine bD ?_ | refine bA ?_ _)); exact BK371.out) Tryd.underlying26 rfl (by kernel_rfl)) rfl ?_
  exact ⟨_, yF, zR (rM (Kd.R_far (p := ⟨gb371, 1, none⟩) (Kd.R_far (p := ⟨gb371, 0, none⟩) (Kd.R_types HO375.out BK371.out (by decide)) (fun _ hk => hk.2) (.slice Ao13 t373.length co13)) (fun _ hk => hk.2) (.int .i64 (wrap64 ((wrap64 (t376 + 1)) - a0_1)))) (fun _ hk => trivial)), xG2 HB.out GE370.out GE371.out⟩
 ·
  replace c3 := Bool.eq_false_iff.mpr c3
  subst c3
  have H1 : (some (([] : List Int), 0, false)) = some (r1, r2, r3) := by rw [if_neg (show ¬ (false = true) by decide)] at H; exact H
  clear H
  have H := H1
  clear H1
  simp only [Option.some.injEq, Prod.mk.injEq] at H
  obtain ⟨rfl, rfl, rfl⟩ := H
  go_enter Tryd.func16, Tryd.ntmps16
  go_wp2_with (first | (refine yB 1 #[.slice A0_0 l0_0.length c0_0, .int .i64 a0_1] 26 ?_; intro gb370 hg w16 hbox hb; have BK370 := aM (hbox); have GW370 := yV0 hg HB; have GE370 := yV0 hg HB; replace HB := yS0 HB hb; clear hb hbox hg) | (refine yB 2 #[.slice none 0 0, .int .i64 0] 26 ?_; intro gb371 hg w17 hbox hb; have BK371 := aM (hbox); have GW371 := yV1 hg HB GE370; have GE371 := yV1 hg HB GE370; replace HB := yS1 HB GE370 hb; have NB370_371 := yX hg BK370; have NB371_370 := yY NB370_371; replace BK370 := yK BK370 hb; clear hb hbox hg; have hnb18 := NB370_371.out; have hnc18 := NB371_370.out; obtain ⟨hcz19_0, hcz19_1, hfz19_0, hfz19_1⟩ := yD2 BK370) | (refine yL 5 Tryd.func10 #[.agg #[.slice A0_0 l0_0.length c0_0, .int .i64 a0_1]] ?_; (with_reducible refine (impl_IsVote.calls k _ _ l0_0 a0_1 false _ ?side1 ?side2 A2.out).mono ?_); (case side1 => exact xC (Kd.C_below HR0_0.out HB.out)); (case side2 => exact HC0_0.out); rintro e w20 ⟨rfl, hb⟩; refine ⟨_, rfl, ?_⟩; replace BK370 := yK BK370 hb; replace BK371 := yK BK371 hb; replace HB := yS2 HB GE370 GE371 hb; (try clear hb; try clear hb2; try clear hk; try clear hi); obtain ⟨hcz21_0, hcz21_1, hfz21_0, hfz21_1⟩ := yD2 BK371))
  refine bodyPost_ret (results_ct rfl _ _ gb371 26 #[.slice none 0 0, .int .i64 0] (0, 0) _ rfl (by (with_reducible repeat (first | refine bN ?_ _ | refine bD ?_ | refine bA ?_ _)); refine blk_put (cs := #[.slice none 0 0, .int .i64 0]) ?_ 1 _ rfl; (with_reducible repeat (first | refine bN ?_ _ | refine bD ?_ | refine bA ?_ _)); refine blk_put (cs := #[.slice none 0 0, .int .i64 0]) ?_ 0 _ rfl; (with_reducible repeat (first | refine bN ?_ _ | refine bD ?_ | refine bA ?_ _)); exact BK371.out) Tryd.underlying26 rfl (by kernel_rfl)) rfl ?_
  exact ⟨_, yF, by first | exact Kd.R_nil _ _ _ _ _ | exact Kd.N_nil _ _ _ _ _ | exact Kd.V_nil _ _ _ _ _ | exact Kd.Q_nil _ _ _ _ _ | exact Kd.S_nil _ _ _ _ _, xG2 HB.out GE370.out GE371.out⟩
def spec_l1Own.f (l0 : List Int) : Option (List Int) := (some (([] : List Int) : List Int)).bind fun y377 => (if y377.length + l0.length < 17592186044416 then (some (y377 ++ l0)) else (none))
theorem spec_l1Own.calls (A0 : Option Addr) (c0 : Nat) (l0 : List Int) (r : List Int) (w : World) (hr0 : Kd.C (Kd.int .i64) w A0 l0.length l0) (hc0 : l0.length ≤ c0) (h : spec_l1Own.f l0 = some r) :
  Calls Tryd.prog 60 #[.slice A0 l0.length c0] w fun e w' => ∃ v0_ : Value, e = .returned (v0_) ∧ Kd.R (Kd.int .i64) 3 w' w.heap.size (fun _ => True) v0_ r ∧ Below w.heap.size w w' := by
 have HR0 := aM hr0
 have HC0 := aM hc0
 clear hr0 hc0
 have HB := aM (Below.refl w.heap.size w)
 have H : ((some (([] : List Int) : List Int)).bind fun y377 => (if y377.length + l0.length < 17592186044416 then (some (y377 ++ l0)) else (none))) = some r := h
 clear h
 obtain ⟨y377, hy377⟩ := yE (([] : List Int) : List Int)
 replace H : (if y377.length + l0.length < 17592186044416 then (some (y377 ++ l0)) else (none)) = some r := by first | (rw [hy377]; with_reducible exact H) | (have H2_ := (Option.bind_some _ _).symm.trans H; rw [hy377]; with_reducible exact H2_) | (have H2_ := (Option.bind_some _ _).symm.trans H; with_reducible exact H2_) | with_reducible exact H | (rw [hy377]; exact H) | exact H
 have Ny377 := aM hy377
 clear hy377
 by_cases c2 : y377.length + l0.length < 17592186044416
 ·
  rw [if_pos c2] at H
  have LMc2 := aM c2
  clear c2
  obtain ⟨y380, hy380⟩ := yE (y377 ++ l0 : List Int)
  replace H : (some y380) = some r := by first | (rw [hy380]; with_reducible exact H) | (have H2_ := (Option.bind_some _ _).symm.trans H; rw [hy380]; with_reducible exact H2_) | (have H2_ := (Option.bind_some _ _).symm.trans H; with_reducible exact H2_) | with_reducible exact H | (rw [hy380]; exact H) | exact H
  have Ny380 := aM hy380
  clear hy380
  obtain rfl := Option.some.inj H
  go_enter Tryd.func60, Tryd.ntmps60
  go_wp2_with (first | ((with_reducible refine gate_dst (N := 3) rfl ?_); refine Kd.R_lit (Kd.int .i64) _ 3 ?hg (N := 3) ?hd (xs := ([] : List Int)) (inner := []) (ok := fun _ => True) (okp := fun _ => True) ?hr ?hp (fun _ hk => hk) trivial (Below.refl _ _) (Nat.le_refl _) (by simp) ?_; (case hd => rfl); (case hg => rfl); (case hr => first | (go_simp; done) | (go_simp; rfl)); (case hp => exact (Reps.none _ _)); intro v378 w3 ho4 hb hg_ hnew_; clear hg_ hnew_; (first | rw [← Ny377.out] at ho4 | (simp only [Int.reduceToNat] at ho4; rw [← Ny377.out] at ho4)); have HO379 := aM (Kd.R_lower ho4 (below_size (xH HB.out))); replace HB := yS0 HB hb; clear hb ho4) | ((with_reducible refine gate_builtin (b := .append) (xs := #[.tmp 3, .tmp 4]) rfl ?_); at_builtin; refine Kd.R_append_rows (Kd.int .i64) (w0 := w) w.heap.size rfl (.tmp 3) (.tmp 4) 24 3 (.int .i64 0) 8 rfl Tryd.underlying24 info3 rfl (by decide) (by omega) v378 y377 l0 _ _ _ (fun _ => True) (fun _ => False) rfl rfl ?aO ?aR (fun _ _ h => h) (fun _ h => h.elim) ?aF ?aB ?aS ?aL ?_; (case aR => exact xC (Kd.C_below HR0.out HB.out)); (case aB => exact (xH HB.out)); (case aF => exact (fun _ _ => trivial)); (case aO => exact (xR HO379.out)); (case aS => exact (below_size (xH HB.out))); (case aL => have := LMc2.out; omega); intro v381 w5 ho hb hg hat; rw [← Ny380.out] at ho; replace HB := aM (hb); have HO382 := aM (ho); clear HO379; clear ho hb hg hat))
  go_ret
  exact ⟨_, yF, xR HO382.out, by repeat (first | (with_reducible first | exact HB.out | apply eA | apply eN | apply eD) | exact HB.out)⟩
 ·
  rw [if_neg c2] at H
  exact absurd H (by simp)
end Go.Proofs.YtkgekmpnbhomgaaDoor.PFnVotes
