-- Laid for this claim by a program of the session's own (wip/tool/myprint.py).
import Derived.RangeFuncBox
import Derived.RangeFuncLeaves
import Derived.Shelf.Abstract
import Derived.OwnWalkIn
import Derived.TacticsInMore
import Derived.LoopNIn
import Derived.LoopIn
import Derived.Test.YtmfmgnpefjmieaaZFnTablesShelf
import Derived.Test.YtmfmgnpefjmieaaMFnTablesx7
namespace Go.Proofs.Ytmfmgnpefjmieaa.PFnTables
open Go.RowKit Go.Proofs.YtmfmgnpefjmieaaW.PrintWords Go.Proofs.YtmfmgnpefjmieaaW.PrintLast Go.Proofs.YtmfmgnpefjmieaaW.PrintMore
attribute [local go_sem] max2_int min2_int max_two min_two max_three min_three max_four min_four
set_option linter.unusedVariables false
set_option maxHeartbeats 8000000
set_option maxRecDepth 100000
set_option linter.unusedSimpArgs false
def sortI (l : List Int) : List Int := l.mergeSort fun x y => decide (x ≤ y)
theorem sortI_len (l : List Int) : (sortI l).length = l.length := List.length_mergeSort _
theorem sortI_R (P0_ : Nat → Prop) (u9000_ : Value) (l0 : List Int) (w0 w : World) (hB : Below w0.heap.size w0 w) (ho0 : Kd.R (Kd.int .i64) 3 w w0.heap.size P0_ u9000_ l0) (hsz0 : l0.length < 4611686018427387904) :
    Calls Try.prog 141 #[u9000_] w fun e w' => e = .returned (.tuple #[]) ∧ Kd.R (Kd.int .i64) 3 w' w0.heap.size P0_ u9000_ (sortI l0) ∧ Below w0.heap.size w0 w' := by
  by_cases hz : l0.length = 0
  · obtain rfl : l0 = [] := List.eq_nil_of_length_eq_zero hz; obtain ⟨A, c, rfl⟩ := Kd.R_slice ho0; refine (Try.slices_Sort_int_none A c w).mono ?_; rintro e w' ⟨rfl, rfl⟩; exact ⟨rfl, by rw [show sortI [] = [] by simp [sortI]]; exact ho0, hB⟩
  have hown := Kd.own_of_R ho0; obtain ⟨hlen, hown⟩ := hown; rcases hown with ⟨_, h0⟩ | ⟨g, cap, cur, rfl, hg, hheap, hn, hcap, hsz, htake⟩
  · omega
  · have hPg : P0_ g := ho0.1 g rfl; have hgl : g < w.heap.size := (Array.getElem?_eq_some_iff.1 hheap).1
    have hcell : ∀ k, k < l0.length → cur[k]? = some (.int .i64 (rd l0 (k : Int))) := by
      intro k hk; obtain ⟨ad, e1, e2⟩ := Kd.at_int (Kd.R_reads' ho0).2.2 (k : Int) (by omega) (by omega); cases e1
      rw [← e2]; have := cell_of_row w g k cur 3 (0, 0) hheap; rw [← this]; by_cases hz : k = 0 <;> simp [Addr.add, hz]
    have hH : Go.Sort.Holds (Value.int .i64) w g 0 l0.toArray := by
      intro k hk; have hk' : k < l0.length := by simpa using hk
      refine ⟨?_, by simp [World.frozen?, hheap]⟩; rw [Nat.zero_add, cell_of_row w g k cur 3 (0, 0) hheap, hcell k hk']; unfold rd; simp [List.getD_eq_getElem?_getD, List.getElem?_eq_getElem hk']
    refine (Try.slices_Sort_int g 0 cap l0 w hH hgl hsz0).mono ?_; rintro e w' ⟨rfl, q, os, rfl⟩; obtain ⟨D, hD⟩ : ∃ D, D = sortI l0 := ⟨_, rfl⟩
    rw [show (l0.mergeSort fun x y => decide (x ≤ y)) = D from hD.symm, ← hD]; have hDl : D.length = l0.length := by rw [hD]; exact sortI_len l0
    have hsize0 : (Go.Sort.putRow (Value.int .i64) (Go.Sort.ahead w q) g 0 D.toArray).heap.size = w.heap.size := by
      simp [Go.Sort.putRow, Go.Sort.mapBlock, Go.Sort.ahead]
    have hold : ∀ k, k < w.heap.size → (Go.Sort.grow (Go.Sort.putRow (Value.int .i64) (Go.Sort.ahead w q) g 0 D.toArray) os).heap[k]? = (Go.Sort.putRow (Value.int .i64) (Go.Sort.ahead w q) g 0 D.toArray).heap[k]? := by
      intro k hk; simp only [Go.Sort.grow]; rw [Array.getElem?_append_left (by rw [hsize0]; exact hk)]
    have hblock : ∀ k, k < w.heap.size → k ≠ g → (Go.Sort.grow (Go.Sort.putRow (Value.int .i64) (Go.Sort.ahead w q) g 0 D.toArray) os).heap[k]? = w.heap[k]? := by
      intro k hk hne; rw [hold k hk]; simp only [Go.Sort.putRow, Go.Sort.mapBlock, Go.Sort.ahead, Array.getElem?_modify]; rw [if_neg (fun h => hne h.symm)]
    have hself : (Go.Sort.grow (Go.Sort.putRow (Value.int .i64) (Go.Sort.ahead w q) g 0 D.toArray) os).heap[g]? = some (.cells (Go.Sort.putCells (Value.int .i64) 0 D.toArray cur) 3 (0, 0)) := by
      rw [hold g hgl]; simp only [Go.Sort.putRow, Go.Sort.mapBlock, Go.Sort.ahead, Array.getElem?_modify]; rw [if_pos trivial, hheap]; rfl
    have hsize : w.heap.size ≤ (Go.Sort.grow (Go.Sort.putRow (Value.int .i64) (Go.Sort.ahead w q) g 0 D.toArray) os).heap.size := by
      simp only [Go.Sort.grow, Array.size_append]; rw [hsize0]; exact Nat.le_add_right _ _
    refine ⟨rfl, ?_, ?_⟩
    · refine Kd.R_of_own ⟨by simp [encs], Or.inr ⟨g, cap, Go.Sort.putCells (Value.int .i64) 0 D.toArray cur, ?_, hg, hself, by rw [hDl]; exact hn, hcap, by simp [Go.Sort.putCells]; omega, ?_⟩⟩ (fun k hk => ?_)
      · rw [hDl]
      · apply List.ext_getElem?; intro k; simp only [Nat.mul_one]; rw [hDl, List.getElem?_take]; by_cases hk : k < l0.length
        · rw [if_pos hk, Array.getElem?_toList]; have hkc : k < cur.size := by omega
          simp only [Go.Sort.putCells, encs, Array.getElem?_mapIdx, Array.getElem?_eq_getElem hkc, Option.map_some]; rw [if_pos ⟨Nat.zero_le _, by simp; omega⟩, List.getElem?_map]; have hkD : k < D.length := by omega
          rw [List.getElem?_eq_getElem hkD]; simp [hkD]
        · rw [if_neg hk, List.getElem?_eq_none]; rw [encs, List.length_map]; omega
      · have : g = k := by simpa [Value.ownBlock] using hk
        exact this ▸ hPg
    · exact ⟨hB.os, hB.tape, hB.output, Nat.le_trans hB.size hsize, fun k hk => (hblock k (Nat.lt_of_lt_of_le hk hB.size) (by omega)).trans (hB.block k hk)⟩
section
open Go.Shelf
attribute [local go_sem] Oper.semAt_some
def uptoZ (zs : List Int) (k : Nat) : List Int := (List.range k).map fun j => zs[j]?.getD 0
theorem uptoZ_succ (zs : List Int) (k : Nat) : uptoZ zs (k + 1) = uptoZ zs k ++ [zs[k]?.getD 0] := by simp [uptoZ, List.range_succ]
theorem uptoZ_length (zs : List Int) (k : Nat) : (uptoZ zs k).length = k := by simp [uptoZ]
theorem uptoZ_all (zs : List Int) : uptoZ zs zs.length = zs := by
  apply List.ext_getElem
  · simp [uptoZ]
  · intro i h1 h2; simp [uptoZ, h2]
theorem uptoZ_take (zs : List Int) {k : Nat} (hk : k ≤ zs.length) : uptoZ zs k = zs.take k := by
  apply List.ext_getElem
  · simp [uptoZ, hk]
  · intro i h1 h2; have : i < zs.length := by simp [uptoZ] at h1; omega
    simp [uptoZ, this]
def IntsZ (n₀ : Nat) (W : World) (A : Option Addr) (zs : List Int) : Prop :=
  ∀ j, j < zs.length → ∃ ad, A = some ad ∧ (ad.add j).block < n₀ ∧ W.cell? (ad.add j) = some (.int .i64 (zs[j]?.getD 0))
theorem IntsZ.below {n₀ : Nat} {X Y : World} (h : Below n₀ X Y) {A : Option Addr} {zs : List Int} (hI : IntsZ n₀ X A zs) : IntsZ n₀ Y A zs := fun j hj => by
  obtain ⟨ad, e, hb, hc⟩ := hI j hj; exact ⟨ad, e, hb, (h.cell (p := ad.add j) hb).trans hc⟩
theorem IntsZ.of {w : World} {A : Option Addr} {zs : List Int} (h : Kd.C (Kd.int .i64) w A zs.length zs) : IntsZ w.heap.size w A zs := fun j hj => by
  obtain ⟨ad, e1, e2⟩ := Kd.at_int h (j : Int) (by omega) (by omega); rw [Int.toNat_natCast] at e2; refine ⟨ad, e1, World.block_lt_of_cell? w _ e2, ?_⟩; rw [e2]; unfold rd; simp [List.getD_eq_getElem?_getD]
set_option maxHeartbeats 2000000 in
theorem values1_in (F : Fence) (n : Nat) (hf : F.fn 142) (hro : F.round = none) (hn : 1 ≤ n) (l Bs n₀ cap : Nat) (A : Option Addr) (zs : List Int) (hreach : zs.length * 8 ≤ 140737488351232) (J Jx : List Int → World → Prop)
    (hY : ∀ pre x W, J pre W → pre.length < zs.length → YieldAt F (n - 1) Try.prog l #[.int .i64 x] W fun e W' =>
      (e = .returned (.bool true) ∧ J (pre ++ [x]) W' ∧ Below n₀ W W') ∨ (e = .returned (.bool false) ∧ Jx (pre ++ [x]) W'))
    (W : World) (hBs : W.cell? ⟨Bs, 0, none⟩ = some (.slice A zs.length cap)) (hc : IntsZ n₀ W A zs) (h0 : J [] W) :
    CallsIn F n Try.prog 142 #[.func (.yield l) #[] #[], .pointer (some ⟨Bs, 0, none⟩)] W fun e W' => (∃ v, e = .returned v) ∧
      ((∃ ys, ys = zs ∧ J ys W') ∨ (∃ pre, pre <+: zs ∧ Jx pre W')) := by
  refine callsIn_of_wp Try.func142 rfl hf ?_ hro; simp only [Try.ntmps142, List.size_toArray, List.length_cons, List.length_nil, Nat.reduceAdd, Nat.reduceSub, Array.replicate_succ, Array.replicate_zero, List.push_toArray, List.append_toArray, List.nil_append, List.cons_append]
  gi_wp2
  gi_loopw [7] (fun i wr => ∃ k : Nat, k ≤ zs.length ∧ i = .int .i64 k ∧ J (uptoZ zs k) wr ∧ Below n₀ W wr)
    (fun i _ => zs.length - (intOf i).toNat)
  case atStart => exact ⟨0, Nat.zero_le _, rfl, h0, Below.refl _ _⟩
  case round =>
    obtain ⟨k, hk, rfl, hJs, hnx⟩ := hrel; by_cases hlt : k < zs.length
    · obtain ⟨ad, rfl, hb, hcell⟩ := hc k hlt; obtain ⟨x, hx0⟩ : ∃ x, zs[k]?.getD 0 = x := ⟨_, rfl⟩
      rw [hx0] at hcell; have HX := aM hx0; clear hx0; obtain ⟨fn, tmps, assign, body, hy, hR⟩ := hY _ x wr hJs (by rw [uptoZ_length]; exact hlt); have hcx' := (hnx.cell (p := ad.add k) hb).trans hcell
      gi_wp2
      refine hR.mono ?_; rintro e W3 (⟨rfl, hJ3, hk3⟩ | ⟨rfl, hJx3⟩)
      · gi_wp2
        go_roundw; case rel => exact ⟨k + 1, by omega, by simp, by rw [uptoZ_succ, HX.out]; exact hJ3, hnx.trans hk3⟩
        case measure => simp [intOf]; omega
      · gi_wp2
        refine bodyPost_ret (results_none rfl _ _ _) rfl ?_; exact ⟨⟨_, rfl⟩, .inr ⟨_, by rw [← HX.out, ← uptoZ_succ, uptoZ_take zs (by omega)]; exact List.take_prefix _ _, hJx3⟩⟩
    · obtain rfl : k = zs.length := by omega
      gi_wp2
      go_end0; exact ⟨⟨_, rfl⟩, .inl ⟨_, rfl, by rw [uptoZ_all] at hJs; exact hJs⟩⟩
theorem values_stops (F : Fence) (n : Nat) (hf : F.fn 142) (hro : F.round = none) (hn : 1 ≤ n) (Bs n₀ cap : Nat) (A : Option Addr) (zs : List Int) (hreach : zs.length * 8 ≤ 140737488351232) (w : World) (hBs : Bs < w.heap.size) (hn₀ : n₀ ≤ w.heap.size)
    (hc : w.cell? ⟨Bs, 0, none⟩ = some (.slice A zs.length cap)) (hI : IntsZ n₀ w A zs) :
    SeqStopsK F n Try.prog 142 #[.pointer (some ⟨Bs, 0, none⟩)] (fun x : Int => #[Value.int .i64 x]) (Below n₀) (fun ys => ys = zs) (fun pre => pre <+: zs) zs.length w := fun l J Jx W hW _ _ hY h0 =>
  values1_in F n hf hro hn l Bs n₀ cap A zs hreach J Jx hY W ((hW.cell (p := ⟨Bs, 0, none⟩) hBs).trans hc) (hI.below (hW.mono hn₀)) h0
theorem infoZ : (Try.prog.info? 3).map (fun i => (i.zero, i.size, i.bytes)) = some (some (.int .i64 0), 1, 8) := by kernel_rfl
set_option maxHeartbeats 2000000 in
theorem appendSeq_in (F : Fence) (n : Nat) (h1f : F.fn 158) (h2f : F.fn 142) (hro : F.round = none) (hn : 3 ≤ n) (Bs cap : Nat) (A : Option Addr) (zs : List Int) (hlen : zs.length ≤ maxLen) (hreach : zs.length * 8 ≤ 140737488351232) (w : World) (hBs : Bs < w.heap.size)
    (hc : w.cell? ⟨Bs, 0, none⟩ = some (.slice A zs.length cap)) (hI : IntsZ w.heap.size w A zs) :
    CallsIn F n Try.prog 158 #[.slice none 0 0, .func (.func 142) #[] #[.pointer (some ⟨Bs, 0, none⟩)]] w fun e W' => ∃ v, e = .returned v ∧ W'.ownsRow w.heap.size 3 1 v zs.length (zs.map (Value.int .i64)) ∧ Below w.heap.size w W' := by
  have h1 : 1 ≤ n := by omega
  obtain ⟨i0, hi, hz0, hz1, hz2⟩ := info_parts infoZ; refine callsIn_of_wp_marks Try.func158 rfl h1f ?_ hro; simp only [Try.ntmps158, List.size_toArray, List.length_cons, List.length_nil, Nat.reduceAdd, Nat.reduceSub, Array.replicate_succ, Array.replicate_zero, List.push_toArray, List.append_toArray, List.nil_append, List.cons_append]
  gi_wp2
  have bO := Boxed.new w 24 (.slice none 0 0); have hB0 : Below w.heap.size w (w.alloc (.cells #[.slice none 0 0] 24)) := (Below.refl _ w).alloc (Nat.le_refl _) _
  refine wpIn_rangeFunc_ownG hro h1 (gf := 142) (lb := #[.pointer (some ⟨Bs, 0, none⟩)]) rfl h2f (enters_of Try.func142 (by kernel_rfl) rfl)
    (values_stops F (n - 1) h2f hro (by omega) Bs w.heap.size cap A zs hreach _ (by simp; omega) (by simp) ((hB0.cell (p := ⟨Bs, 0, none⟩) hBs).trans hc) (hI.below hB0)) belowK_t (belowK_b (by simp)) (Below.refl _ _) (fun _ => rfl)
    (fun pre W => (∃ v, Boxed W w.heap.size 24 v ∧ W.ownsRow w.heap.size 3 1 v pre.length (pre.map (Value.int .i64)) ∧ (v = .slice none 0 0 ↔ pre = [])) ∧ Below w.heap.size w W)
    (fun _ _ _ => False)
    (OwnFrom.and (Own.from (holdsRow_own w.heap.size w.heap.size 24 3 1 (fun pre => pre.length) (fun pre => pre.map (Value.int .i64)) (fun pre v => v = .slice none 0 0 ↔ pre = [])) _) (ownFrom_below (Nat.le_refl _) (by simp)))
    (fun _ _ _ _ _ hs _ _ => hs)
    ⟨⟨_, bO, World.ownsRow_nil _ _ _ _, by simp⟩, hB0⟩
    (fun x => { tmps := #[.slice none 0 0, .func (.func 142) #[] #[.pointer (some ⟨Bs, 0, none⟩)], .pointer (some ⟨w.heap.size, 0, none⟩), undef, .slice none 0 0, .int .i64 x, .func (.func 142) #[] #[.pointer (some ⟨Bs, 0, none⟩)], .int .i64 x, undef, undef, undef, undef, undef], defers := [] }) ?assign ?body ?done ?stop
  case assign =>
    intro l x W K hK
    gi_wp2
    exact hK
  case body =>
    rintro l pre x W ⟨⟨v, hv, hrow, hnil⟩, hB⟩ hlt; have hc := hv.cell
    gi_wp2_with (gi_at_builtin; refine wpListIn_append_own _ rfl _ _ 24 rfl w.heap.size 3 i0 (.int .i64 0) 1 8 Try.underlying24 hi hz0 hz1 hz2 rfl (by decide) _ _ _ rfl (hrow.alloc _) ⟨W.heap.size, 0, none⟩ 1 1 [.int .i64 x] rfl rfl (cell_one_new _ _ _) (by simp [Value.oneCell']) (by omega) (by omega) (by have := hB.size; simp; omega) ?_; intro v' w1 hown' hgrow _; obtain ⟨g', cap', rfl⟩ := ownsRow_succ hown'; obtain ⟨hv1, hv2, hr2, hk2, hb2⟩ := hv.appended (by decide) hrow hB.size (Nat.le_refl _) hown' hgrow; have hc1 := hv1.cell; have hf1 := hv1.frozen)
    exact ⟨hk2.from _, hb2, ⟨_, hv2, by simpa using hr2, by simp⟩, hB.trans hb2⟩
  case done =>
    rintro D ys W hD rfl ⟨⟨v, hv, hrow, hnil⟩, hB⟩ hK; have hc := hv.cell
    gi_wp2
    refine ⟨by simp, .inl ⟨_, _, rfl, run_takeDeferred hK, ?_⟩⟩; exact ⟨_, results_tmp rfl _ _ _, v, rfl, ownsRow_putObj hrow _ hK rfl, hB.trans (belowK_b (w := w) (Nat.le_refl _) W D _ _ (by simp at hD; omega) hK rfl rfl)⟩
  case stop =>
    rintro D c pre W _ _ h _; exact h.elim
end
theorem appendSeq_calls (Bs cap : Nat) (A : Option Addr) (zs : List Int) (hlen : zs.length ≤ 1048576) (w : World) (hBs : Bs < w.heap.size) (hc : w.cell? ⟨Bs, 0, none⟩ = some (.slice A zs.length cap)) (hI : Kd.C (Kd.int .i64) w A zs.length zs) :
    Calls Try.prog 158 #[.slice none 0 0, .func (.func 142) #[] #[.pointer (some ⟨Bs, 0, none⟩)]] w fun e W' => ∃ v, e = .returned v ∧ Kd.R (Kd.int .i64) 3 W' w.heap.size (fun _ => True) v zs ∧ Below w.heap.size w W' := by
  refine ((callsIn_wide (n := 3)).1 (appendSeq_in _ 3 trivial trivial rfl (Nat.le_refl _) Bs cap A zs (by unfold maxLen; omega) (by omega) w hBs hc (IntsZ.of hI))).mono ?_; rintro e W' ⟨v, rfl, ho, hb⟩; exact ⟨v, rfl, Kd.R_of_own ho (fun _ _ => trivial), hb⟩
theorem collect_calls (Bs cap : Nat) (A : Option Addr) (zs : List Int) (hlen : zs.length ≤ 1048576) (w : World) (hBs : Bs < w.heap.size) (hc : w.cell? ⟨Bs, 0, none⟩ = some (.slice A zs.length cap)) (hI : Kd.C (Kd.int .i64) w A zs.length zs) :
    Calls Try.prog 140 #[.func (.func 142) #[] #[.pointer (some ⟨Bs, 0, none⟩)]] w fun e W' => ∃ v, e = .returned v ∧ Kd.R (Kd.int .i64) 3 W' w.heap.size (fun _ => True) v zs ∧ Below w.heap.size w W' := by
  have HA := aM (appendSeq_calls Bs cap A zs hlen w hBs hc hI); clear hlen hBs hc hI; go_enter Try.func140, Try.ntmps140; go_wp2_with (go_at_call 158; (refine HA.out.mono ?_); rintro e w' ⟨v, rfl, ho, hb⟩; have HO := aM ho; have HB := aM hb; clear ho hb); go_ret; exact ⟨_, rfl, HO.out, HB.out⟩
theorem values_calls (A : Option Addr) (len cap : Nat) (w : World) :
    Calls Try.prog 106 #[.slice A len cap] w fun e w' => e = .returned (.func (.func 142) #[] #[.pointer (some ⟨w.heap.size, 0, none⟩)]) ∧ w' = w.alloc (.cells #[.slice A len cap] 24) := by
  go_enter Try.func106, Try.ntmps106; go_wp2; go_ret; exact ⟨rfl, rfl⟩
theorem sorted_calls (Bs cap : Nat) (A : Option Addr) (zs : List Int) (hlen : zs.length ≤ 1048576) (w : World) (hBs : Bs < w.heap.size) (hc : w.cell? ⟨Bs, 0, none⟩ = some (.slice A zs.length cap)) (hI : Kd.C (Kd.int .i64) w A zs.length zs) :
    Calls Try.prog 105 #[.func (.func 142) #[] #[.pointer (some ⟨Bs, 0, none⟩)]] w fun e W' => ∃ v, e = .returned v ∧ Kd.R (Kd.int .i64) 3 W' w.heap.size (fun _ => True) v (sortI zs) ∧ Below w.heap.size w W' := by
  have HA := aM (collect_calls Bs cap A zs hlen w hBs hc hI); have HS := aM (fun v w5 (hB5 : Below w.heap.size w w5) (ho5 : Kd.R (Kd.int .i64) 3 w5 w.heap.size (fun _ => True) v zs) => sortI_R (fun _ => True) v zs w w5 hB5 ho5 (by omega)); clear hlen hBs hc hI; go_enter Try.func105, Try.ntmps105; go_wp2_with (first | (go_at_call 140; (refine HA.out.mono ?_); rintro e w' ⟨v, rfl, ho, hb⟩; have HO := aM ho; have HB := aM hb; clear ho hb) | (go_at_call 141; (refine (HS.out _ _ HB.out HO.out).mono ?_); rintro e w' ⟨rfl, ho, hb⟩; clear HO HB; have HO := aM ho; have HB := aM hb; clear ho hb)); go_ret; exact ⟨_, rfl, HO.out, HB.out⟩
def permPlace (l : List Int) (k : Int) : Nat → Int
  | 0 => 0
  | j + 1 => Go.bits .or .i64 (permPlace l k j) (shl .i64 (Go.bits .and .i64 (shr .i64 k (j : Int)) 1) (rd l (j : Int)))
theorem perm1 (k : Int) (gt gb : Nat) (A1 : Option Addr) (c1 : Nat) (l1 : List Int) (A2 : Option Addr) (c2 : Nat) (l2 : List Int) (W : World) (ht : W.heap[gt]? = some (.cells #[.slice A2 l2.length c2] 24 (0, 0))) (hb : W.heap[gb]? = some (.cells #[.slice A1 l1.length c1] 24 (0, 0)))
    (hr1 : Kd.C (Kd.int .i64) W A1 l1.length l1) (hr2 : Kd.C (Kd.int .i64) W A2 l2.length l2) (hs : l2.length ≤ 1048576) (hnn : ∀ i ∈ l2, 0 ≤ i) (h0 : 0 ≤ permPlace l2 k l2.length) (h1 : permPlace l2 k l2.length < (l1.length : Int)) :
    Calls Try.prog 107 #[.int .i64 k, .pointer (some ⟨gt, 0, none⟩), .pointer (some ⟨gb, 0, none⟩)] W fun e W' => e = .returned (.int .i64 (rd l1 (permPlace l2 k l2.length))) ∧ Drawn0 W W' := by
 have hb0 : W.cell? ⟨gb, 0, none⟩ = some (.slice A1 l1.length c1) := (bC hb 0).trans rfl; have ht0 : W.cell? ⟨gt, 0, none⟩ = some (.slice A2 l2.length c2) := (bC ht 0).trans rfl; have hfb := bF hb 0; have hft := bF ht 0; have HR2 := aM hr2; have HNN := aM hnn; have HS := aM hs; have HH0 := aM h0; have HH1 := aM h1; have HR1 := aM hr1; clear hb ht hr2 hnn hs h0 h1 hr1; go_enter Try.func107, Try.ntmps107; go_wp2; go_loopw [5, 10] (fun v5 v10 w' => ∃ j : Nat, v10 = .int .i64 (j : Int) ∧ v5 = .int .i64 (permPlace l2 k j) ∧ Aside0 (j ≤ l2.length) ∧ w' = W) (fun _ v10 _ => l2.length - (intOf v10).toNat); case atStart => exact ⟨0, rfl, rfl, ⟨Nat.zero_le _⟩, rfl⟩
 case round =>
  obtain ⟨j, rfl, rfl, HJ, rfl⟩ := hrel; by_cases c : j < l2.length
  ·
   have d0 : decide ((j : Int) < (l2.length : Int)) = true := decide_eq_true (by omega); have d1 : decide (j < l2.length) = true := decide_eq_true c; obtain ⟨ad, ead, hx⟩ := Kd.at_int HR2.out (j : Int) (by omega) (by omega); cases ead
   have hx2 : wr.cell? (ad.add j) = some (.int .i64 (rd l2 (j : Int))) := hx; clear hx; have HC := aM c
   have hnn : 0 ≤ rd l2 (j : Int) := HNN.out _ (by
     have hj : (l2.getD j 0) = l2[j] := by simp [List.getD_eq_getElem?_getD, List.getElem?_eq_getElem c]
     show rd l2 (j : Int) ∈ l2
     unfold rd; rw [Int.toNat_natCast, hj]; exact List.getElem_mem c)
   have hjb : (j : Int) ≤ 1048576 := by have := HS.out; omega
   have hj0 : (0 : Int) ≤ (j : Int) := by omega
   obtain ⟨pl, hpl⟩ : ∃ pl, permPlace l2 k j = pl := ⟨_, rfl⟩
   rw [hpl]; have HPL := aM hpl; clear hpl; obtain ⟨z, hz⟩ : ∃ z, rd l2 (j : Int) = z := ⟨_, rfl⟩
   rw [hz] at hx2 hnn; have HZ := aM hz; clear hz; go_wp2; go_roundw
   case rel =>
    refine ⟨j + 1, by go_num, ?_, ⟨HC.out⟩, trivial⟩; simp only [permPlace]; rw [HPL.out, HZ.out]
    congr 2
    unfold shl shr; rw [i64_w, Int.toNat_natCast]; rfl
   case measure => have := HC.out; simp [intOf]; omega
  ·
   have d0 : decide ((j : Int) < (l2.length : Int)) = false := decide_eq_false (by omega); have d1 : decide (j < l2.length) = false := decide_eq_false c; have e : j = l2.length := by have := HJ.out; omega
   subst e; obtain ⟨pl, hpl⟩ : ∃ pl, permPlace l2 k l2.length = pl := ⟨_, rfl⟩
   have h0 := HH0.out; have h1 := HH1.out; rw [hpl] at h0 h1 ⊢; have HPE := aM hpl; obtain ⟨ad, ead, hx⟩ := Kd.at_int HR1.out pl h0 h1; cases ead
   have c0 := eq_true h0; have c1_ := eq_true h1; clear hpl c; go_wp2; go_ret; exact ⟨by rw [HPE.out]; rfl, yDn⟩
def permsOf (l1 l2 : List Int) : Option (List Int × Bool) :=
  if (∀ i ∈ l2, 0 ≤ i) ∧ (l1.length ≤ 1048576 ∧ ∀ k, k < l1.length → 0 ≤ permPlace l2 (k : Int) l2.length ∧ permPlace l2 (k : Int) l2.length < (l1.length : Int)) then some ((List.range l1.length).map fun k : Nat => rd l1 (permPlace l2 (k : Int) l2.length), true) else none
def impl_PermuteBits.f (k : Nat) (a0 : Int) (l1 : List Int) (l2 : List Int) : Option (List Int × Bool) :=
  if l2.length ≤ 1048576 then ((impl_isTable.f k a0 l1).bind fun t1 => (if t1 = true then (if (l2.length : Int) = a0 then ((impl_rising.f k (sortI l2)).bind fun t2 => (if t2 = true then ((impl_allWithin.f k l2 0 (wrap64 (a0 - 1))).bind fun t3 => (if t3 = true then (permsOf l1 l2) else (some ([], false)))) else (some ([], false)))) else (some ([], false))) else (some ([], false)))) else none
theorem impl_PermuteBits.calls (k : Nat) (a0 : Int) (A1 : Option Addr) (c1 : Nat) (l1 : List Int) (A2 : Option Addr) (c2 : Nat) (l2 : List Int) (r1 : List Int) (r2 : Bool) (w : World) (hr1 : Kd.C (Kd.int .i64) w A1 l1.length l1) (hc1 : l1.length ≤ c1) (hr2 : Kd.C (Kd.int .i64) w A2 l2.length l2) (hc2 : l2.length ≤ c2) (h : impl_PermuteBits.f k a0 l1 l2 = some (r1, r2)) :
    Calls Try.prog 42 #[.int .i64 a0, .slice A1 l1.length c1, .slice A2 l2.length c2] w fun e w' => ∃ v0_ : Value, e = .returned (.tuple #[v0_, .bool r2]) ∧ Kd.R (Kd.int .i64) 3 w' w.heap.size (fun _ => True) v0_ r1 ∧ Below w.heap.size w w' := by
 have HR1 := aM hr1; have HC1 := aM hc1; have HR2 := aM hr2; have HC2 := aM hc2; clear hr1 hc1 hr2 hc2; have HB := aM (Below.refl w.heap.size w); unfold impl_PermuteBits.f at h; by_cases cl : l2.length ≤ 1048576
 ·
  rw [if_pos cl] at h; have HLEN := aM cl; clear cl; replace h := oB.mp h; obtain ⟨t1, A1_, h⟩ := h; have AA1 := aM A1_; clear A1_; by_cases c4 : t1 = true
  rotate_left
  ·
   rw [if_neg c4] at h; have e_ := Bool.eq_false_iff.2 c4; subst e_; simp only [Option.some.injEq, Prod.mk.injEq] at h; obtain ⟨rfl, rfl⟩ := h; go_enter Try.func42, Try.ntmps42; go_wp2_with (first | (refine yB 4 #[.slice A1 l1.length c1] 24 ?_; intro gb hg wBgb hbox hb; have BKgb := aM hbox; have GEgb := aM ((by rw [hg]; exact (below_size (xH HB.out))) : w.heap.size ≤ gb); replace HB := yS0 HB hb; have hczgb := (bC BKgb.out 0).trans rfl; have hfzgb := bF BKgb.out 0; clear hb hbox hg) | (refine yB 5 #[.slice A2 l2.length c2] 24 ?_; intro gt hg wBgt hbox hb; have BKgt := aM hbox; have GEgt := aM ((by rw [hg]; exact (below_size (xH HB.out))) : w.heap.size ≤ gt); replace HB := yS0 HB hb; have n3_ := aM (bB BKgb.out hb); clear BKgb; have BKgb := n3_; clear n3_; have hczgb := (bC BKgb.out 0).trans rfl; have hfzgb := bF BKgb.out 0; have hczgt := (bC BKgt.out 0).trans rfl; have hfzgt := bF BKgt.out 0; clear hb hbox hg) | (go_at_call 106; (refine (values_calls A2 l2.length c2 _).mono ?_); rintro e w' ⟨rfl, rfl⟩) | (go_at_call 105; (refine (sorted_calls _ c2 A2 l2 HLEN.out _ ?h1 ?h2 ?h3).mono ?_); (case h1 => simp); (case h2 => exact (bC (blk_new _ _) 0).trans rfl); (case h3 => exact Kd.C_alloc (Kd.C_below HR2.out (xH HB.out)) _); rintro e w' ⟨vs, rfl, ho, hb⟩; have HB := aM (below_step (eA (xH HB.out) _) hb); have BKgb := aM (bB (bA BKgb.out _) hb); have BKgt := aM (bB (bA BKgt.out _) hb); have HSO := aM ho; clear ho hb; have hczgb := (bC BKgb.out 0).trans rfl; have hfzgb := bF BKgb.out 0; have hczgt := (bC BKgt.out 0).trans rfl; have hfzgt := bF BKgt.out 0; obtain ⟨As, cs, rfl⟩ := Kd.R_slice HSO.out) | (go_at_call 74; (with_reducible refine (impl_isTable.calls k a0 _ _ l1 false _ (xC (Kd.C_below HR1.out (xH HB.out))) HC1.out AA1.out).mono ?_); rintro e w' ⟨rfl, ⟨nd, rfl⟩⟩)); go_ret2; exact ⟨_, rfl, Kd.R_nil .., (xH HB.out)⟩
  subst c4; rw [if_pos rfl] at h; by_cases cn : (l2.length : Int) = a0
  ·
   rw [if_pos cn] at h; have d1 : decide ((l2.length : Int) = a0) = true := decide_eq_true cn; have d2 : ((l2.length : Int) == a0) = true := beq_iff_eq.2 cn; have d3 : ((l2.length : Int) != a0) = false := by rw [bne, d2]; rfl
   replace h := oB.mp h; obtain ⟨t2, A2_, h⟩ := h; have AA2 := aM A2_; clear A2_ cn; by_cases c5 : t2 = true
   rotate_left
   ·
    rw [if_neg c5] at h; have e_ := Bool.eq_false_iff.2 c5; subst e_; simp only [Option.some.injEq, Prod.mk.injEq] at h; obtain ⟨rfl, rfl⟩ := h; go_enter Try.func42, Try.ntmps42; go_wp2_with (first | (refine yB 4 #[.slice A1 l1.length c1] 24 ?_; intro gb hg wBgb hbox hb; have BKgb := aM hbox; have GEgb := aM ((by rw [hg]; exact (below_size (xH HB.out))) : w.heap.size ≤ gb); replace HB := yS0 HB hb; have hczgb := (bC BKgb.out 0).trans rfl; have hfzgb := bF BKgb.out 0; clear hb hbox hg) | (refine yB 5 #[.slice A2 l2.length c2] 24 ?_; intro gt hg wBgt hbox hb; have BKgt := aM hbox; have GEgt := aM ((by rw [hg]; exact (below_size (xH HB.out))) : w.heap.size ≤ gt); replace HB := yS0 HB hb; have n3_ := aM (bB BKgb.out hb); clear BKgb; have BKgb := n3_; clear n3_; have hczgb := (bC BKgb.out 0).trans rfl; have hfzgb := bF BKgb.out 0; have hczgt := (bC BKgt.out 0).trans rfl; have hfzgt := bF BKgt.out 0; clear hb hbox hg) | (go_at_call 106; (refine (values_calls A2 l2.length c2 _).mono ?_); rintro e w' ⟨rfl, rfl⟩) | (go_at_call 105; (refine (sorted_calls _ c2 A2 l2 HLEN.out _ ?h1 ?h2 ?h3).mono ?_); (case h1 => simp); (case h2 => exact (bC (blk_new _ _) 0).trans rfl); (case h3 => exact Kd.C_alloc (Kd.C_below HR2.out (xH HB.out)) _); rintro e w' ⟨vs, rfl, ho, hb⟩; have HB := aM (below_step (eA (xH HB.out) _) hb); have BKgb := aM (bB (bA BKgb.out _) hb); have BKgt := aM (bB (bA BKgt.out _) hb); have HSO := aM ho; clear ho hb; have hczgb := (bC BKgb.out 0).trans rfl; have hfzgb := bF BKgb.out 0; have hczgt := (bC BKgt.out 0).trans rfl; have hfzgt := bF BKgt.out 0; obtain ⟨As, cs, rfl⟩ := Kd.R_slice HSO.out) | (go_at_call 74; (with_reducible refine (impl_isTable.calls k a0 _ _ l1 true _ (xC (Kd.C_below HR1.out (xH HB.out))) HC1.out AA1.out).mono ?_); rintro e w' ⟨rfl, ⟨nd, rfl⟩⟩) | (go_at_call 99; (with_reducible refine (impl_rising.calls k _ _ (sortI l2) false _ ?side1 ((Kd.R_reads' HSO.out).2.1) AA2.out).mono ?_); (case side1 => repeat (first | exact ((Kd.R_reads' HSO.out).2.2) | (with_reducible refine Kd.C_alloc ?_ _) | (with_reducible refine Kd.C_drewN ?_ _) | (with_reducible refine Kd.C_drew ?_))); rintro e w' ⟨rfl, ⟨nd, rfl⟩⟩)); go_ret2; exact ⟨_, rfl, Kd.R_nil .., (xH HB.out)⟩
   subst c5; rw [if_pos rfl] at h; replace h := oB.mp h; obtain ⟨t3, A3_, h⟩ := h; have AA3 := aM A3_; clear A3_; by_cases c6 : t3 = true
   rotate_left
   ·
    rw [if_neg c6] at h; have e_ := Bool.eq_false_iff.2 c6; subst e_; simp only [Option.some.injEq, Prod.mk.injEq] at h; obtain ⟨rfl, rfl⟩ := h; go_enter Try.func42, Try.ntmps42; go_wp2_with (first | (refine yB 4 #[.slice A1 l1.length c1] 24 ?_; intro gb hg wBgb hbox hb; have BKgb := aM hbox; have GEgb := aM ((by rw [hg]; exact (below_size (xH HB.out))) : w.heap.size ≤ gb); replace HB := yS0 HB hb; have hczgb := (bC BKgb.out 0).trans rfl; have hfzgb := bF BKgb.out 0; clear hb hbox hg) | (refine yB 5 #[.slice A2 l2.length c2] 24 ?_; intro gt hg wBgt hbox hb; have BKgt := aM hbox; have GEgt := aM ((by rw [hg]; exact (below_size (xH HB.out))) : w.heap.size ≤ gt); replace HB := yS0 HB hb; have n3_ := aM (bB BKgb.out hb); clear BKgb; have BKgb := n3_; clear n3_; have hczgb := (bC BKgb.out 0).trans rfl; have hfzgb := bF BKgb.out 0; have hczgt := (bC BKgt.out 0).trans rfl; have hfzgt := bF BKgt.out 0; clear hb hbox hg) | (go_at_call 106; (refine (values_calls A2 l2.length c2 _).mono ?_); rintro e w' ⟨rfl, rfl⟩) | (go_at_call 105; (refine (sorted_calls _ c2 A2 l2 HLEN.out _ ?h1 ?h2 ?h3).mono ?_); (case h1 => simp); (case h2 => exact (bC (blk_new _ _) 0).trans rfl); (case h3 => exact Kd.C_alloc (Kd.C_below HR2.out (xH HB.out)) _); rintro e w' ⟨vs, rfl, ho, hb⟩; have HB := aM (below_step (eA (xH HB.out) _) hb); have BKgb := aM (bB (bA BKgb.out _) hb); have BKgt := aM (bB (bA BKgt.out _) hb); have HSO := aM ho; clear ho hb; have hczgb := (bC BKgb.out 0).trans rfl; have hfzgb := bF BKgb.out 0; have hczgt := (bC BKgt.out 0).trans rfl; have hfzgt := bF BKgt.out 0; obtain ⟨As, cs, rfl⟩ := Kd.R_slice HSO.out) | (go_at_call 74; (with_reducible refine (impl_isTable.calls k a0 _ _ l1 true _ (xC (Kd.C_below HR1.out (xH HB.out))) HC1.out AA1.out).mono ?_); rintro e w' ⟨rfl, ⟨nd, rfl⟩⟩) | (go_at_call 99; (with_reducible refine (impl_rising.calls k _ _ (sortI l2) true _ ?side1 ((Kd.R_reads' HSO.out).2.1) AA2.out).mono ?_); (case side1 => repeat (first | exact ((Kd.R_reads' HSO.out).2.2) | (with_reducible refine Kd.C_alloc ?_ _) | (with_reducible refine Kd.C_drewN ?_ _) | (with_reducible refine Kd.C_drew ?_))); rintro e w' ⟨rfl, ⟨nd, rfl⟩⟩) | (go_at_call 88; (with_reducible refine (impl_allWithin.calls k _ _ l2 0 (wrap64 (a0 - 1)) false _ (xC (Kd.C_below HR2.out (xH HB.out))) HC2.out AA3.out).mono ?_); rintro e w' ⟨rfl, ⟨nd, rfl⟩⟩)); go_ret2; exact ⟨_, rfl, Kd.R_nil .., (xH HB.out)⟩
   subst c6; rw [if_pos rfl] at h
   have hcond : (∀ i ∈ l2, 0 ≤ i) ∧ (l1.length ≤ 1048576 ∧ ∀ k, k < l1.length → 0 ≤ permPlace l2 (k : Int) l2.length ∧ permPlace l2 (k : Int) l2.length < (l1.length : Int)) := by
    unfold permsOf at h; by_cases c : (∀ i ∈ l2, 0 ≤ i) ∧ (l1.length ≤ 1048576 ∧ ∀ k, k < l1.length → 0 ≤ permPlace l2 (k : Int) l2.length ∧ permPlace l2 (k : Int) l2.length < (l1.length : Int))
    · exact c
    · rw [if_neg c] at h; cases h
   unfold permsOf at h; rw [if_pos hcond] at h; simp only [Option.some.injEq, Prod.mk.injEq] at h; obtain ⟨rfl, rfl⟩ := h; have HCD := aM hcond; clear hcond; go_enter Try.func42, Try.ntmps42; go_wp2_with (first | (refine yB 4 #[.slice A1 l1.length c1] 24 ?_; intro gb hg wBgb hbox hb; have BKgb := aM hbox; have GEgb := aM ((by rw [hg]; exact (below_size (xH HB.out))) : w.heap.size ≤ gb); replace HB := yS0 HB hb; have hczgb := (bC BKgb.out 0).trans rfl; have hfzgb := bF BKgb.out 0; clear hb hbox hg) | (refine yB 5 #[.slice A2 l2.length c2] 24 ?_; intro gt hg wBgt hbox hb; have BKgt := aM hbox; have GEgt := aM ((by rw [hg]; exact (below_size (xH HB.out))) : w.heap.size ≤ gt); replace HB := yS0 HB hb; have n3_ := aM (bB BKgb.out hb); clear BKgb; have BKgb := n3_; clear n3_; have hczgb := (bC BKgb.out 0).trans rfl; have hfzgb := bF BKgb.out 0; have hczgt := (bC BKgt.out 0).trans rfl; have hfzgt := bF BKgt.out 0; clear hb hbox hg) | (go_at_call 106; (refine (values_calls A2 l2.length c2 _).mono ?_); rintro e w' ⟨rfl, rfl⟩) | (go_at_call 105; (refine (sorted_calls _ c2 A2 l2 HLEN.out _ ?h1 ?h2 ?h3).mono ?_); (case h1 => simp); (case h2 => exact (bC (blk_new _ _) 0).trans rfl); (case h3 => exact Kd.C_alloc (Kd.C_below HR2.out (xH HB.out)) _); rintro e w' ⟨vs, rfl, ho, hb⟩; have HB := aM (below_step (eA (xH HB.out) _) hb); have BKgb := aM (bB (bA BKgb.out _) hb); have BKgt := aM (bB (bA BKgt.out _) hb); have HSO := aM ho; clear ho hb; have hczgb := (bC BKgb.out 0).trans rfl; have hfzgb := bF BKgb.out 0; have hczgt := (bC BKgt.out 0).trans rfl; have hfzgt := bF BKgt.out 0; obtain ⟨As, cs, rfl⟩ := Kd.R_slice HSO.out) | (go_at_call 74; (with_reducible refine (impl_isTable.calls k a0 _ _ l1 true _ (xC (Kd.C_below HR1.out (xH HB.out))) HC1.out AA1.out).mono ?_); rintro e w' ⟨rfl, ⟨nd, rfl⟩⟩) | (go_at_call 99; (with_reducible refine (impl_rising.calls k _ _ (sortI l2) true _ ?side1 ((Kd.R_reads' HSO.out).2.1) AA2.out).mono ?_); (case side1 => repeat (first | exact ((Kd.R_reads' HSO.out).2.2) | (with_reducible refine Kd.C_alloc ?_ _) | (with_reducible refine Kd.C_drewN ?_ _) | (with_reducible refine Kd.C_drew ?_))); rintro e w' ⟨rfl, ⟨nd, rfl⟩⟩) | (go_at_call 88; (with_reducible refine (impl_allWithin.calls k _ _ l2 0 (wrap64 (a0 - 1)) true _ (xC (Kd.C_below HR2.out (xH HB.out))) HC2.out AA3.out).mono ?_); rintro e w' ⟨rfl, ⟨nd, rfl⟩⟩) | (go_at_call 100; (refine (looked_calls l1.length HCD.out.2.1 107 Try.f107 Try.func107 (by kernel_rfl) rfl #[.pointer (some ⟨gt, 0, none⟩), .pointer (some ⟨gb, 0, none⟩)] (fun k : Nat => rd l1 (permPlace l2 (k : Int) l2.length)) _ (fun i hi W hW => (perm1 i gt gb A1 c1 l1 A2 c2 l2 W ?h1 ?h2 ?h3 ?h4 HLEN.out HCD.out.1 (HCD.out.2.2 i hi).1 (HCD.out.2.2 i hi).2).mono (fun e W' hh => ⟨hh.1, hh.2.below⟩))).mono ?_); (case h1 => exact (hW.block gt (blk_lt BKgt.out)).trans BKgt.out); (case h2 => exact (hW.block gb (blk_lt BKgb.out)).trans BKgb.out); (case h3 => exact Kd.C_below (Kd.C_below HR1.out (xH HB.out)) hW); (case h4 => exact Kd.C_below (Kd.C_below HR2.out (xH HB.out)) hW); rintro e w' ⟨v0, rfl, ho, hb⟩; have HO := aM (Kd.R_lower ho (below_size (xH HB.out))); have n0_ := yS0 HB hb; clear HB; have HB := n0_; clear n0_ ho hb)); go_ret2; exact ⟨_, rfl, HO.out, HB.out⟩
  ·
   rw [if_neg cn] at h; have d1 : decide ((l2.length : Int) = a0) = false := decide_eq_false cn; have d2 : ((l2.length : Int) == a0) = false := beq_eq_false_iff_ne.2 cn; have d3 : ((l2.length : Int) != a0) = true := by rw [bne, d2]; rfl
   clear cn; simp only [Option.some.injEq, Prod.mk.injEq] at h; obtain ⟨rfl, rfl⟩ := h; go_enter Try.func42, Try.ntmps42; go_wp2_with (first | (refine yB 4 #[.slice A1 l1.length c1] 24 ?_; intro gb hg wBgb hbox hb; have BKgb := aM hbox; have GEgb := aM ((by rw [hg]; exact (below_size (xH HB.out))) : w.heap.size ≤ gb); replace HB := yS0 HB hb; have hczgb := (bC BKgb.out 0).trans rfl; have hfzgb := bF BKgb.out 0; clear hb hbox hg) | (refine yB 5 #[.slice A2 l2.length c2] 24 ?_; intro gt hg wBgt hbox hb; have BKgt := aM hbox; have GEgt := aM ((by rw [hg]; exact (below_size (xH HB.out))) : w.heap.size ≤ gt); replace HB := yS0 HB hb; have n3_ := aM (bB BKgb.out hb); clear BKgb; have BKgb := n3_; clear n3_; have hczgb := (bC BKgb.out 0).trans rfl; have hfzgb := bF BKgb.out 0; have hczgt := (bC BKgt.out 0).trans rfl; have hfzgt := bF BKgt.out 0; clear hb hbox hg) | (go_at_call 106; (refine (values_calls A2 l2.length c2 _).mono ?_); rintro e w' ⟨rfl, rfl⟩) | (go_at_call 105; (refine (sorted_calls _ c2 A2 l2 HLEN.out _ ?h1 ?h2 ?h3).mono ?_); (case h1 => simp); (case h2 => exact (bC (blk_new _ _) 0).trans rfl); (case h3 => exact Kd.C_alloc (Kd.C_below HR2.out (xH HB.out)) _); rintro e w' ⟨vs, rfl, ho, hb⟩; have HB := aM (below_step (eA (xH HB.out) _) hb); have BKgb := aM (bB (bA BKgb.out _) hb); have BKgt := aM (bB (bA BKgt.out _) hb); have HSO := aM ho; clear ho hb; have hczgb := (bC BKgb.out 0).trans rfl; have hfzgb := bF BKgb.out 0; have hczgt := (bC BKgt.out 0).trans rfl; have hfzgt := bF BKgt.out 0; obtain ⟨As, cs, rfl⟩ := Kd.R_slice HSO.out) | (go_at_call 74; (with_reducible refine (impl_isTable.calls k a0 _ _ l1 true _ (xC (Kd.C_below HR1.out (xH HB.out))) HC1.out AA1.out).mono ?_); rintro e w' ⟨rfl, ⟨nd, rfl⟩⟩)); go_ret2; exact ⟨_, rfl, Kd.R_nil .., (xH HB.out)⟩
 · rw [if_neg cl] at h; cases h
def spec_l1Has.l0 : Nat → List Int → Int → Int → Option (Bool)
  | 0, _, _, _ => none
  | k + 1, x0, x1, x5 => if x5 < (x0.length : Int) then (if 0 ≤ x5 then (if (rd x0 x5) = x1 then (some true) else (spec_l1Has.l0 k x0 x1 (wrap64 (x5 + 1)))) else (none)) else (some false)
def spec_l1Has.f (k : Nat) (l0 : List Int) (a1 : Int) : Option (Bool) := spec_l1Has.l0 k l0 a1 0
theorem spec_l1Has.calls (k : Nat) (A0 : Option Addr) (c0 : Nat) (l0 : List Int) (a1 : Int) (r : Bool) (w : World) (hr0 : Kd.C (Kd.int .i64) w A0 l0.length l0) (hc0 : l0.length ≤ c0) (h : spec_l1Has.f k l0 a1 = some r) :
    Calls Try.prog 108 #[.slice A0 l0.length c0, .int .i64 a1] w fun e w' => e = .returned (.bool r) ∧ Drawn0 w w' := by
 have HR0 := aM hr0; have HC0 := aM hc0; clear hr0 hc0; have H : (spec_l1Has.l0 k l0 a1 0) = some r := h; clear h; have H' := aM H; clear H; go_enter Try.func108, Try.ntmps108; go_wp2; go_loopg [5] k (fun kq v5 w' => ∃ (x5_1 : Int), v5 = .int .i64 x5_1 ∧ Aside0 (spec_l1Has.l0 kq l0 a1 x5_1 = some r) ∧ Aside0 (kq ≤ k) ∧ Drawn0 w w'); case atStart => exact ⟨(0), yZ, H', ⟨Nat.le_refl _⟩, yDn⟩
 case round =>
  clear H'; try clear c1
  obtain ⟨x5_1, rfl, HA, HK1, ⟨m1, rfl⟩⟩ := hrel; cases gk with
  | zero => exact absurd HA.out (by simp [spec_l1Has.l0])
  | succ k1 =>
   have H := HA.out; clear HA; simp only [spec_l1Has.l0] at H; obtain ⟨-, c3b0, H⟩ | ⟨-, c3b0, H⟩ := yif H
   rotate_left
   ·
    obtain rfl := Option.some.inj H; go_wp2; go_ret; exact ⟨yZ, yDn⟩
   obtain ⟨-, c4b0, H⟩ | ⟨c4, -, H⟩ := yif H
   rotate_left
   · exact absurd H (by simp)
   obtain ⟨c5, -, H⟩ | ⟨c5, -, H⟩ := yif H
   ·
    have c5b0 : ((rd l0 x5_1) == a1) = true := beq_iff_eq.mpr c5; have c5b1 : ((rd l0 x5_1) != a1) = false := bne_eq_false_iff_eq.mpr c5; clear c5; obtain rfl := Option.some.inj H; obtain ⟨ad406, e406, hx406_0, p406, q406⟩ := yi HR0.out x5_1; cases e406
    go_wp2; go_ret; exact ⟨yZ, yDn⟩
   have c5b0 : ((rd l0 x5_1) == a1) = false := beq_eq_false_iff_ne.mpr c5; have c5b1 : ((rd l0 x5_1) != a1) = true := bne_iff_ne.mpr c5; have H' := aM H; clear H; obtain ⟨ad406, e406, hx406_0, p406, q406⟩ := yi HR0.out x5_1; cases e406
   go_wp2; go_roundg k1; case measure => have := HK1.out; omega
   case rel => exact ⟨(wrap64 (x5_1 + 1)), yZ, H', ⟨by have := HK1.out; omega⟩, yDn⟩
end Go.Proofs.Ytmfmgnpefjmieaa.PFnTables
