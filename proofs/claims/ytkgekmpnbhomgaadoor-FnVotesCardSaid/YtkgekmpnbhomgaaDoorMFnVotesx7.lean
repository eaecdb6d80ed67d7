-- Laid for this claim by a program of the session's own (wip/tool/myprint.py).
import Derived.Test.YtkgekmpnbhomgaaDoorMFnVotesx0
import Derived.Test.YtkgekmpnbhomgaaDoorMFnVotesx3
import Derived.Test.YtkgekmpnbhomgaaDoorMFnVotesx4
import Derived.Test.YtkgekmpnbhomgaaDoorMFnVotesx5
import Derived.Test.YtkgekmpnbhomgaaDoorMFnVotesx6
namespace Go.Proofs.YtkgekmpnbhomgaaDoor.PFnVotes
open Go.RowKit Go.Proofs.YtkgekmpnbhomgaaDoorW.PrintWords Go.Proofs.YtkgekmpnbhomgaaDoorW.PrintLast Go.Proofs.YtkgekmpnbhomgaaDoorW.PrintMore
attribute [local go_sem] max2_int min2_int max_two min_two max_three min_three max_four min_four
set_option linter.unusedVariables false
set_option maxHeartbeats 8000000
set_option maxRecDepth 100000
set_option linter.unusedSimpArgs false
def sortL (cf : List Int → List Int → Int) (xs : List (List Int)) : List (List Int) := xs.mergeSort fun x y => !(decide (cf y x < 0))
open Go.Proofs Go.Lib Go.Sort Kd in
theorem sortS_heap {α : Type} [Inhabited α] (enc : α → Value) (w : World) (g m : Nat) (dk : Array α) (os : Array Obj) {cur : Array Value} {t : TypeId} (hheap : w.heap[g]? = some (.cells cur t (0, 0))) :
    (∀ k, k < w.heap.size → k ≠ g → (sortWorld enc w g 0 m dk os).heap[k]? = w.heap[k]?) ∧ (sortWorld enc w g 0 m dk os).heap[g]? = some (.cells (putCells enc 0 dk cur) t (0, 0)) ∧ w.heap.size ≤ (sortWorld enc w g 0 m dk os).heap.size := by
  have hgl : g < w.heap.size := (Array.getElem?_eq_some_iff.1 hheap).1
  have hsize0 : (Go.Sort.putRow enc (Go.Sort.ahead w m) g 0 dk).heap.size = w.heap.size := by
    simp [Go.Sort.putRow, Go.Sort.mapBlock, Go.Sort.ahead]
  have hold : ∀ k, k < w.heap.size → (sortWorld enc w g 0 m dk os).heap[k]? = (Go.Sort.putRow enc (Go.Sort.ahead w m) g 0 dk).heap[k]? := by
    intro k hk
    simp only [sortWorld, Go.Sort.grow]
    rw [Array.getElem?_append_left (by rw [hsize0]; exact hk)]
  refine ⟨fun k hk hne => ?_, ?_, ?_⟩
  · rw [hold k hk]
    simp only [Go.Sort.putRow, Go.Sort.mapBlock, Go.Sort.ahead, Array.getElem?_modify]
    rw [if_neg (fun h => hne h.symm)]
  · rw [hold g hgl]
    simp only [Go.Sort.putRow, Go.Sort.mapBlock, Go.Sort.ahead, Array.getElem?_modify]
    rw [if_pos trivial, hheap]
    rfl
  · simp only [sortWorld, Go.Sort.grow, Array.size_append]
    rw [hsize0]; exact Nat.le_add_right _ _
theorem sortS_ext {α : Type} (a : Array α) (n : Nat) (h : a.size = n) : a.extract 0 n = a := by subst h; exact Array.extract_size
open Go.Proofs Go.Lib Go.Sort Kd in
theorem sortS (G : Nat) (eg : ∀ args w, (callFunc G args).run Tryd.prog w = .ok (.enter G args) w) (cf : List Int → List Int → Int) (hO : SWO (ltOf cf)) (hT : ∀ x y, ltOf cf x y = false → ltOf cf y x = false → x = y)
    (P0_ : Nat → Prop) (u : Value) (xs : List (List Int)) (base : Nat) (w0 w : World) (hB : Below base w0 w) (hb0 : w0.heap.size = base)
    (ho : Kd.S (Kd.slice 3 (Kd.int .i64)) 24 w base P0_ u xs) (hsz : xs.length < 4611686018427387904)
    (hcmp : ∀ x ∈ xs, ∀ y ∈ xs, ∀ W A c A' c', Kd.C (Kd.int .i64) W A x.length x → x.length ≤ c → Kd.C (Kd.int .i64) W A' y.length y → y.length ≤ c' → Calls Tryd.prog G #[.slice A x.length c, .slice A' y.length c'] W fun e w' => e = .returned (.int .i64 (cf x y)) ∧ ∃ q, w' = W.drewN q) :
    Calls Tryd.prog 54 #[u, .func (.func G) #[] #[]] w fun e w' => e = .returned (.tuple #[]) ∧ Kd.S (Kd.slice 3 (Kd.int .i64)) 24 w' base P0_ u (sortL cf xs) ∧ Below base w0 w' := by
  rcases Nat.eq_zero_or_pos xs.length with hz | hpos
  · obtain rfl : xs = [] := List.eq_nil_of_length_eq_zero hz
    obtain ⟨A, c, rfl⟩ := Kd.S_slice ho
    refine (Tryd.slices_SortFunc_none (α := Unit) A c _ w).mono ?_
    rintro e w' ⟨rfl, rfl⟩
    exact ⟨rfl, by rw [show sortL cf [] = [] by simp [sortL]]; exact ho, hB⟩
  obtain ⟨f, h0, inner, hown, hr⟩ := ho
  rw [List.length_zipIdx] at hown
  obtain ⟨hil, hown⟩ := hown
  have hil1 : inner.length = xs.length := by rw [hil]; exact Nat.mul_one _
  rcases hown with ⟨_, hz⟩ | ⟨g, cap, cur, rfl, hg, hheap, hn, hcap, hszz, htake⟩
  · omega
  have hgl : g < w.heap.size := (Array.getElem?_eq_some_iff.1 hheap).1
  have hszz1 : cur.size = cap := by rw [hszz]; exact Nat.mul_one _
  have hPg : P0_ g := h0 g rfl
  obtain ⟨enc, henc⟩ : ∃ enc : Fin xs.length → Value, enc = fun j => inner.getD j.1 (.slice none 0 0) := ⟨_, rfl⟩
  have hat : ∀ j : Fin xs.length, inner[j.1]? = some (enc j) := by
    intro j
    rw [henc]
    simp only [List.getD_eq_getElem?_getD]
    rw [List.getElem?_eq_getElem (by omega)]; rfl
  have hR : ∀ j : Fin xs.length, (Kd.int .i64).R 3 w base (fun k => (P0_ k ∧ some k ≠ (Value.slice (some ⟨g, 0, none⟩) xs.length cap).ownBlock) ∧ f k = j.1) (enc j) xs[j] := by
    intro j
    have h1 := hr.2 j.1 (xs[j], j.1) (zip_at (List.getElem?_eq_getElem j.2))
    obtain ⟨v, hv, h2⟩ := h1
    have hd : (inner.drop (j.1 * (tag f (slice 3 (Kd.int .i64))).sz)).take (tag f (slice 3 (Kd.int .i64))).sz = [enc j] := by
      show (inner.drop (j.1 * 1)).take 1 = [enc j]
      rw [Nat.mul_one, List.drop_eq_getElem_cons (by omega)]
      have := hat j
      rw [List.getElem?_eq_getElem (by omega)] at this
      rw [Option.some.inj this]; rfl
    rw [hd] at hv
    have : enc j = v := by simpa using hv
    rw [this]; exact h2
  have hne : ∀ k, some k ≠ (Value.slice (some ⟨g, 0, none⟩) xs.length cap).ownBlock → k ≠ g := fun k hk e => hk (by rw [e]; rfl)
  haveI : Inhabited (Fin xs.length) := ⟨⟨0, hpos⟩⟩
  have h1c : OneCell enc := fun j => (Kd.R_val (hR j)).2
  obtain ⟨cf', hcf'⟩ : ∃ cf' : Fin xs.length → Fin xs.length → Int, cf' = fun i j => cf xs[i] xs[j] := ⟨_, rfl⟩
  have hO' : SWO (ltOf cf') := by
    subst hcf'
    exact ⟨fun x => hO.irrefl _, fun x y z => hO.trans _ _ _, fun x y z => hO.ntrans _ _ _⟩
  obtain ⟨d, hd⟩ : ∃ d : Array (Fin xs.length), d = (List.finRange xs.length).toArray := ⟨_, rfl⟩
  have hds : d.size = xs.length := by rw [hd]; simp
  have hH : Holds enc w g 0 d := by
    intro j hj
    have hj' : j < xs.length := by omega
    have hdj : d[j]! = (⟨j, hj'⟩ : Fin xs.length) := by
      rw [getElem!_pos d j hj]
      subst hd
      simp [List.getElem_finRange]
    rw [hdj, Nat.zero_add]
    refine ⟨?_, by simp [World.frozen?, hheap]⟩
    rw [cell_of_row w g j cur 24 (0, 0) hheap]
    have h2 := hat ⟨j, hj'⟩
    rw [← htake, List.getElem?_take, if_pos (by rw [show (tag f (slice 3 (Kd.int .i64))).sz = 1 from rfl]; omega), Array.getElem?_toList] at h2
    exact h2
  have hstep : ∀ (m : Nat) (os : Array Obj) (dk : Array (Fin xs.length)) (j : Fin xs.length), (Kd.int .i64).R 3 (sortWorld enc w g 0 m dk os) base (fun k => (P0_ k ∧ some k ≠ (Value.slice (some ⟨g, 0, none⟩) xs.length cap).ownBlock) ∧ f k = j.1) (enc j) xs[j] := fun m os dk j =>
    Kd.R_step (hR j) (fun k hk hlt => (sortS_heap enc w g m dk os hheap).1 k hlt (hne k hk.1.2))
  have hcl : CmpLays1 Tryd.prog G #[] enc cf' g 0 d.size w := by
    intro m os dk hdk i j
    obtain ⟨Ai, ci, hi⟩ := Kd.R_slice (hR i)
    obtain ⟨Aj, cj, hj⟩ := Kd.R_slice (hR j)
    have hsi := hstep m os dk i
    have hsj := hstep m os dk j
    rw [hi] at hsi
    rw [hj] at hsj
    have hci := Kd.R_reads' hsi
    have hcj := Kd.R_reads' hsj
    rw [hi, hj, hcf']
    refine (hcmp xs[i] (List.getElem_mem _) xs[j] (List.getElem_mem _) _ Ai ci Aj cj hci.2.2 hci.2.1 hcj.2.2 hcj.2.1).mono ?_
    rintro e w' ⟨rfl, q, rfl⟩
    exact ⟨rfl, q, #[], by rw [grow_empty]⟩
  have hfin := Tryd.slices_SortFunc enc h1c cf' hO' G #[] g 0 cap d w eg hcl hH hgl (by omega)
  rw [hds] at hfin
  refine hfin.mono ?_
  rintro e w' ⟨rfl, d', q, os, hp, hs, rfl⟩
  obtain ⟨hps, _, hperm⟩ := hp
  have hds' : d'.size = xs.length := by omega
  have hdk : ∀ j, j < xs.length → j < d'.size := fun j h => Nat.lt_of_lt_of_eq h hds'.symm
  have hperm' : d'.toList.Perm (List.finRange xs.length) := by
    have e1 : d'.extract 0 xs.length = d' := sortS_ext d' _ hds'
    have e2 : d.extract 0 xs.length = d := sortS_ext d _ hds
    rw [e1, e2, hd] at hperm
    simpa using hperm
  have hmapg : (List.finRange xs.length).map (fun j => xs[j]) = xs := by
    apply List.ext_getElem
    · simp
    · intro k h1 h2; simp [List.getElem_finRange]
  obtain ⟨ys, hys⟩ : ∃ ys, ys = d'.toList.map (fun j => xs[j]) := ⟨_, rfl⟩
  have hyl : ys.length = xs.length := by rw [hys, List.length_map, Array.length_toList]; exact hds'
  have hyp : ys.Perm xs := by rw [hys]; exact (hperm'.map _).trans (by rw [hmapg])
  have hysort : ys.Pairwise (fun x y => (!(decide (cf y x < 0))) = true) := by
    rw [List.pairwise_iff_getElem]
    intro i j hi hj hij
    have hi' : i < d'.size := by omega
    have hj' : j < d'.size := by omega
    have := hs i j (Nat.zero_le _) hij (by omega)
    rw [getElem!_pos d' i hi', getElem!_pos d' j hj', hcf'] at this
    subst hys
    simp only [List.getElem_map, Array.getElem_toList]
    simpa [ltOf] using this
  have hle : ∀ x y, (!(decide (cf y x < 0))) = true → (!(decide (cf x y < 0))) = true → x = y := by
    intro x y h1 h2
    exact hT x y (by simpa [ltOf] using h2) (by simpa [ltOf] using h1)
  have htr : ∀ a b c : List Int, (!(decide (cf b a < 0))) = true → (!(decide (cf c b < 0))) = true → (!(decide (cf c a < 0))) = true := by
    intro a b c h1 h2
    have := hO.ntrans c b a (by simpa [ltOf] using h2) (by simpa [ltOf] using h1)
    simpa [ltOf] using this
  have htot : ∀ a b : List Int, ((!(decide (cf b a < 0))) || (!(decide (cf a b < 0)))) = true := by
    intro a b
    by_cases h : cf b a < 0
    · by_cases h' : cf a b < 0
      · have := hO.trans a b a (by simpa [ltOf] using h') (by simpa [ltOf] using h)
        rw [hO.irrefl] at this; cases this
      · simp [h']
    · simp [h]
  have hyeq : ys = sortL cf xs := by
    refine List.Perm.eq_of_pairwise (le := fun x y => (!(decide (cf y x < 0))) = true) (fun a b _ _ => hle a b) hysort (List.pairwise_mergeSort htr htot xs) (hyp.trans (List.mergeSort_perm _ _).symm)
  rw [← hyeq]
  have hW := sortS_heap enc w g q d' os hheap
  refine ⟨rfl, ?_, hB.os, hB.tape, hB.output, Nat.le_trans hB.size hW.2.2, fun k hk => (hW.1 k (by have := hB.size; omega) (by omega)).trans (hB.block k hk)⟩
  obtain ⟨inn, hinn⟩ : ∃ inn, inn = d'.toList.map enc := ⟨_, rfl⟩
  have hinl : inn.length = xs.length := by rw [hinn, List.length_map, Array.length_toList]; exact hds'
  have hdat : ∀ j (h : j < xs.length), ys[j]? = some (xs.get (d'[j]'(hdk j h))) ∧ inn[j]? = some (enc (d'[j]'(hdk j h))) := by
    intro j h
    rw [hys, hinn, List.getElem?_map, List.getElem?_map, Array.getElem?_toList, Array.getElem?_eq_getElem (hdk j h)]
    exact ⟨rfl, rfl⟩
  have hinj : ∀ i j (hi : i < xs.length) (hj : j < xs.length), (d'[i]'(hdk i hi)).1 = (d'[j]'(hdk j hj)).1 → i = j := by
    intro i j hi hj he
    have hnd : d'.toList.Nodup := hperm'.nodup_iff.2 (by
      rw [List.nodup_iff_pairwise_ne, List.pairwise_iff_getElem]
      intro a b ha hb hab h
      simp [List.getElem_finRange] at h
      omega)
    rw [List.nodup_iff_pairwise_ne, List.pairwise_iff_getElem] at hnd
    rcases Nat.lt_trichotomy i j with h | h | h
    · exact absurd (by rw [Array.getElem_toList, Array.getElem_toList]; exact Fin.ext he) (hnd i j (by rw [Array.length_toList]; exact hdk i hi) (by rw [Array.length_toList]; exact hdk j hj) h)
    · exact h
    · exact absurd (by rw [Array.getElem_toList, Array.getElem_toList]; exact (Fin.ext he).symm) (hnd j i (Nat.lt_of_lt_of_eq (hdk j hj) Array.length_toList.symm) (Nat.lt_of_lt_of_eq (hdk i hi) Array.length_toList.symm) h)
  obtain ⟨f', hf'⟩ := reps_tag (d := slice 3 (Kd.int .i64)) (w := sortWorld enc w g 0 q d' os) (base := base) (ok := fun k => P0_ k ∧ some k ≠ (Value.slice (some ⟨g, 0, none⟩) xs.length cap).ownBlock) (xs := ys) (inner := inn)
    (fun j k => ∃ h : j < xs.length, (P0_ k ∧ some k ≠ (Value.slice (some ⟨g, 0, none⟩) xs.length cap).ownBlock) ∧ f k = (d'[j]'(hdk j h)).1)
    (fun i j k ⟨hi, _, h1⟩ ⟨hj, _, h2⟩ => hinj i j hi hj (by rw [← h1, ← h2])) (fun j k ⟨_, h, _⟩ => h)
    (by rw [hinl, hyl]; exact (Nat.mul_one _).symm) (by
      intro j x hx
      have hj : j < xs.length := by have := (List.getElem?_eq_some_iff.1 hx).1; omega
      obtain ⟨h1, h2⟩ := hdat j hj
      rw [h1] at hx
      obtain rfl := Option.some.inj hx
      show ∃ v, (inn.drop (j * 1)).take 1 = [v] ∧ _
      refine ⟨enc (d'[j]'(hdk j hj)), ?_, rM (hstep q os d' (d'[j]'(hdk j hj))) (fun k hk => ⟨hj, hk.1, hk.2⟩)⟩
      rw [Nat.mul_one, List.drop_eq_getElem_cons (by omega)]
      rw [List.getElem?_eq_getElem (by omega)] at h2
      rw [Option.some.inj h2]; rfl)
  refine ⟨f', fun k hk => by have : g = k := by simpa [Value.ownBlock] using hk
                             exact this ▸ hPg, inn, ?_, hf'⟩
  rw [List.length_zipIdx, hyl]
  refine ⟨by rw [hinl]; exact (Nat.mul_one _).symm, .inr ⟨g, cap, putCells enc 0 d' cur, rfl, hg, hW.2.1, hn, hcap, by simp only [putCells, Array.size_mapIdx]; exact hszz, ?_⟩⟩
  apply List.ext_getElem?
  intro k
  rw [List.getElem?_take]
  by_cases hk : k < xs.length
  · rw [if_pos (by rw [show (tag f' (slice 3 (Kd.int .i64))).sz = 1 from rfl]; omega), Array.getElem?_toList, (hdat k hk).2]
    have hkc : k < cur.size := by omega
    simp only [putCells, Array.getElem?_mapIdx, Array.getElem?_eq_getElem hkc, Option.map_some]
    rw [if_pos ⟨Nat.zero_le _, by omega⟩, Nat.sub_zero, getElem!_pos d' k (by omega)]
  · rw [if_neg (by rw [show (tag f' (slice 3 (Kd.int .i64))).sz = 1 from rfl]; omega), List.getElem?_eq_none (by omega)]
def bitsV (s : Nat) : List Int := ((List.range 8).filter fun i => s / 2 ^ i % 2 == 1).map fun i : Nat => (i : Int)
theorem bitsV_step : ∀ s : Nat, s < 256 → s ≠ 0 → bitsV s = ((Lib.ctz 64 s : Nat) : Int) :: bitsV (s &&& (s - 1)) ∧ (s &&& (s - 1)) < s := by decide +kernel
theorem bitsV_len : ∀ s : Nat, s < 256 → (bitsV s).length ≤ 8 := fun s _ => by
  unfold bitsV; rw [List.length_map]; exact Nat.le_trans (List.length_filter_le _ _) (by simp)
theorem and_i64n (a b : Nat) (ha : a < 2 ^ 62) (hb : b < 2 ^ 62) : Go.bits .and .i64 (a : Int) (b : Int) = ((a &&& b : Nat) : Int) :=
  (bits_nat .i64 63 (by decide) (fun n h₀ h₁ => by rw [IntKind.wrap_i64]; omega) a b (by omega) (by omega)).1
set_option maxHeartbeats 1000000 in
theorem tz64_core (x k idx : Nat) (w : World) (hx0 : ((x : Int) == 0) = false)
    (key : IntKind.u64.wrap (Go.bits BinOp.and IntKind.u64 (x : Int) (IntKind.u64.wrap (-(x : Int))) * 285870213051353865) / 288230376151711744 = (idx : Int))
    (hi : idx < 64) (hk : k < 64) (hcell : w.cell? ⟨1, idx, none⟩ = some (.int .u8 k)) :
    Calls Tryd.prog 67 #[.int .u64 x] w fun e w' => e = .returned (.int .i64 k) ∧ w' = w := by
  go_enter Tryd.func67, Tryd.ntmps67
  go_wp2_with (simp only [key])
  go_ret
  exact ⟨rfl, rfl⟩
theorem tz64_calls (x : Nat) (hx : x < 256) (hx0 : x ≠ 0) (w : World) (hT : Go.Proofs.TabAt 1 Lib.deBruijn64tab w) :
    Calls Tryd.prog 67 #[.int .u64 x] w fun e w' => e = .returned (.int .i64 (Lib.ctz 64 x : Nat)) ∧ w' = w := by
  have hx' : x < 18446744073709551616 := by omega
  obtain ⟨hlow, hk⟩ := Lib.lowest_bit 64 x hx0 hx'
  obtain ⟨hi, htab⟩ := Lib.deBruijn64_at _ hk
  have hcell := hT _ hi
  rw [htab] at hcell
  exact tz64_core x _ _ w (by simp; omega) (Go.Proofs.tz64_key x _ hx' hx0 hlow) hi hk hcell
set_option maxHeartbeats 1000000 in
theorem tz_calls (x : Nat) (hx : x < 256) (hx0 : x ≠ 0) (w : World) (hT : Go.Proofs.TabAt 1 Lib.deBruijn64tab w) :
    Calls Tryd.prog 56 #[.int .u64 x] w fun e w' => e = .returned (.int .i64 (Lib.ctz 64 x : Nat)) ∧ w' = w := by
  have hcon := tz64_calls x hx hx0 w hT
  generalize Lib.ctz 64 x = k at *
  clear hT hx hx0
  go_enter Tryd.func56, Tryd.ntmps56
  go_wp2_with (first | (go_at_call 67; refine hcon.mono ?_; rintro e w' ⟨rfl, rfl⟩))
  go_ret
  exact ⟨rfl, rfl⟩
theorem tab_below {w W : World} {g n : Nat} (hT : Go.Proofs.TabAt g Lib.deBruijn64tab w) (hg : g < n) (hb : Below n w W) : Go.Proofs.TabAt g Lib.deBruijn64tab W := by
  intro j hj
  rw [World.cell?_of_block (hb.block g hg)]
  exact hT j hj
theorem members_calls (s : Nat) (hs : s < 256) (w : World) (hg : 1 < w.heap.size) (hT : Go.Proofs.TabAt 1 Lib.deBruijn64tab w) :
    Calls Tryd.prog 37 #[.int .i64 (s : Int)] w fun e w' => ∃ v0_ : Value, e = .returned v0_ ∧ Kd.R (Kd.int .i64) 3 w' w.heap.size (fun _ => True) v0_ (bitsV s) ∧ Below w.heap.size w w' := by
  have HB := aM (Below.refl w.heap.size w)
  have HT := aM hT
  have HG := aM hg
  have HS := aM hs
  have h8 := aM (bitsV_len s hs)
  clear hT hg hs
  go_enter Tryd.func37, Tryd.ntmps37
  go_wp2_with (first | ((with_reducible refine gate_dst (N := 4) rfl ?_); refine Kd.R_lit (Kd.int .i64) _ 3 ?hg (N := 4) ?hd (xs := ([] : List Int)) (inner := []) (ok := fun _ => True) (okp := fun _ => True) ?hr ?hp (fun _ hk => hk) trivial (Below.refl _ _) (Nat.le_refl _) (by simp) ?_; (case hd => rfl); (case hg => rfl); (case hr => first | (go_simp; done) | (go_simp; rfl)); (case hp => exact (Reps.none _ _)); intro v134 w5 ho6 hb hg_ hnew_; clear hg_ hnew_; have HO135 := aM (Kd.R_lower ho6 (below_size (xH HB.out))); replace HB := yS0 HB hb; clear hb ho6))
  go_loopw [0, 3] (fun v0 v3 w' => ∃ (x : Nat) (l : List Int), v0 = .int .i64 (x : Int) ∧ Aside0 (x < 256 ∧ l ++ bitsV x = bitsV s) ∧ Aside0 (Kd.R (Kd.int .i64) 3 w' w.heap.size (fun _ => True) v3 l) ∧ Aside0 (Below w.heap.size w w')) (fun v0 _ _ => (intOf v0).toNat)
  case atStart => exact ⟨s, [], rfl, ⟨HS.out, rfl⟩, ⟨HO135.out⟩, ⟨HB.out⟩⟩
  case round =>
    obtain ⟨x, l, rfl, HJ, HO, HB2⟩ := hrel
    clear HB HO135
    by_cases c : x = 0
    · subst c
      have e := HJ.out.2
      rw [show bitsV 0 = [] by decide, List.append_nil] at e
      go_wp2
      go_ret
      exact ⟨_, rfl, e ▸ HO.out, HB2.out⟩
    · have c0 : ((x : Int) == 0) = false := by simp; omega
      have c1 : ((x : Int) != 0) = true := by simp; omega
      have c2 : decide (x = 0) = false := decide_eq_false c
      have hj := HJ.out.1
      obtain ⟨hst, hlt⟩ := bitsV_step x HJ.out.1 c
      have HC := aM c
      have HST := aM hst
      have HLT := aM hlt
      have hcv : IntKind.u64.wrap (x : Int) = (x : Int) := by rw [IntKind.wrap_u64]; omega
      have hand : Go.bits .and .i64 (x : Int) ((x : Int) - 1) = ((x &&& (x - 1) : Nat) : Int) := by
        rw [show (x : Int) - 1 = ((x - 1 : Nat) : Int) by omega]; exact and_i64n x (x - 1) (by omega) (by omega)
      have hxi : (x : Int) < 256 := by omega
      have h0x : (0 : Int) ≤ (x : Int) := by omega
      have htz := tz_calls x HJ.out.1 c
      obtain ⟨k, hk⟩ : ∃ k, Lib.ctz 64 x = k := ⟨_, rfl⟩
      rw [hk] at htz hst
      have HZ := aM htz
      have HST := aM hst
      have hll : l.length ≤ 8 := by have := congrArg List.length HJ.out.2; rw [List.length_append] at this; have := h8.out; omega
      clear htz hst hlt c hk
      go_wp2_with (first | (go_at_call 56; (with_reducible refine (HZ.out _ ?hT).mono ?_); (case hT => exact tab_below HT.out HG.out (xH HB2.out)); rintro e w' ⟨rfl, rfl⟩) | ((with_reducible refine gate_builtin (b := .append) (xs := #[.tmp 11, .tmp 15]) rfl ?_); at_builtin; refine Kd.R_append (Kd.int .i64) (w0 := w) w.heap.size rfl (.tmp 11) (.tmp 15) 24 3 (.int .i64 0) 8 rfl Tryd.underlying24 info3 rfl (by decide) (by omega) u3 l ((k : Nat) : Int) [.int .i64 ((k : Nat) : Int)] (fun _ => True) (fun _ => False) rfl rfl ?aP (fun _ hk => hk.elim) ?aF ?aO ?aB ?aS ?aL ?_; (case aP => exact rfl); (case aB => exact (xH HB2.out)); (case aF => exact (fun _ _ => trivial)); (case aO => exact (xR HO.out)); (case aS => exact (below_size (xH HB2.out))); (case aL => omega); intro v139 w10 ho hb hg hat; replace HB2 := aM (hb); have HO140 := aM (ho); clear HO; clear ho hb hg hat))
      go_roundw
      case rel => exact ⟨x &&& (x - 1), l ++ [(k : Int)], by first | rfl | rw [hand], ⟨by have := HLT.out; have := HJ.out.1; omega, by have h1 := HJ.out.2; rw [HST.out] at h1; rw [← h1]; simp⟩, HO140, HB2⟩
      case measure => have := HLT.out; have := HC.out; simp [intOf]; omega
def cmpT : List Int → List Int → Int
  | [], [] => 0
  | [], _ :: _ => -1
  | _ :: _, [] => 1
  | x :: a, y :: b => if x < y then -1 else if y < x then 1 else cmpT a b
def cfS (x y : List Int) : Int := if (x.length : Int) = (y.length : Int) then cmpT x y else (x.length : Int) - (y.length : Int)
theorem cmpT_self : ∀ x : List Int, cmpT x x = 0
  | [] => rfl
  | x :: a => by unfold cmpT; rw [if_neg (by omega), if_neg (by omega)]; exact cmpT_self a
theorem cmpT_trans : ∀ x y z : List Int, cmpT x y < 0 → cmpT y z < 0 → cmpT x z < 0
  | [], [], z, h, _ => by simp [cmpT] at h
  | [], _ :: _, [], _, h => by simp [cmpT] at h
  | [], _ :: _, _ :: _, _, _ => by simp [cmpT]
  | _ :: _, [], _, h, _ => by simp [cmpT] at h
  | _ :: _, _ :: _, [], _, h => by simp [cmpT] at h
  | x :: a, y :: b, z :: c, h1, h2 => by
    unfold cmpT at h1 h2 ⊢
    by_cases c1 : x < y
    · by_cases c2 : y < z
      · rw [if_pos (by omega)]; decide
      · rw [if_neg c2] at h2
        by_cases c3 : z < y
        · rw [if_pos c3] at h2; omega
        · rw [if_pos (by omega)]; decide
    · rw [if_neg c1] at h1
      by_cases c3 : y < x
      · rw [if_pos c3] at h1; omega
      · rw [if_neg c3] at h1
        by_cases c2 : y < z
        · rw [if_pos (by omega)]; decide
        · rw [if_neg c2] at h2
          by_cases c4 : z < y
          · rw [if_pos c4] at h2; omega
          · rw [if_neg c4] at h2
            rw [if_neg (by omega), if_neg (by omega)]
            exact cmpT_trans a b c h1 h2
theorem cmpT_tot : ∀ x y : List Int, ¬ cmpT x y < 0 → ¬ cmpT y x < 0 → x = y
  | [], [], _, _ => rfl
  | [], _ :: _, h, _ => by simp [cmpT] at h
  | _ :: _, [], _, h => by simp [cmpT] at h
  | x :: a, y :: b, h1, h2 => by
    unfold cmpT at h1 h2
    by_cases c1 : x < y
    · rw [if_pos c1] at h1; omega
    · by_cases c3 : y < x
      · rw [if_pos c3] at h2; omega
      · rw [if_neg c1, if_neg c3] at h1
        rw [if_neg c3, if_neg c1] at h2
        rw [cmpT_tot a b h1 h2, show x = y by omega]
theorem cfS_lt (x y : List Int) : Go.Proofs.ltOf cfS x y = true ↔ (x.length < y.length ∨ x.length = y.length ∧ cmpT x y < 0) := by
  unfold Go.Proofs.ltOf cfS
  by_cases h : (x.length : Int) = (y.length : Int)
  · rw [if_pos h, decide_eq_true_eq]; constructor
    · intro h1; exact .inr ⟨by omega, h1⟩
    · rintro (h1 | h1)
      · omega
      · exact h1.2
  · rw [if_neg h, decide_eq_true_eq]; constructor
    · intro h1; exact .inl (by omega)
    · rintro (h1 | h1)
      · omega
      · omega
theorem cfS_total (x y : List Int) (h1 : Go.Proofs.ltOf cfS x y = false) (h2 : Go.Proofs.ltOf cfS y x = false) : x = y := by
  have h3 := mt (cfS_lt x y).2 (by rw [h1]; decide)
  have h4 := mt (cfS_lt y x).2 (by rw [h2]; decide)
  have hl : x.length = y.length := by
    rcases Nat.lt_trichotomy x.length y.length with h | h | h
    · exact absurd (.inl h) h3
    · exact h
    · exact absurd (.inl h) h4
  exact cmpT_tot x y (fun h => h3 (.inr ⟨hl, h⟩)) (fun h => h4 (.inr ⟨hl.symm, h⟩))
theorem cfS_swo : Go.Sort.SWO (Go.Proofs.ltOf cfS) where
  irrefl x := by
    rw [Bool.eq_false_iff]
    intro h
    rcases (cfS_lt x x).1 h with h | h
    · omega
    · rw [cmpT_self] at h; omega
  trans x y z h1 h2 := by
    refine (cfS_lt x z).2 ?_
    rcases (cfS_lt x y).1 h1 with h | h <;> rcases (cfS_lt y z).1 h2 with h' | h'
    · exact .inl (by omega)
    · exact .inl (by omega)
    · exact .inl (by omega)
    · exact .inr ⟨by omega, cmpT_trans _ _ _ h.2 h'.2⟩
  ntrans x y z h1 h2 := by
    rw [Bool.eq_false_iff] at h1 h2 ⊢
    intro h
    by_cases hyx : Go.Proofs.ltOf cfS y x = true
    · have hyz : Go.Proofs.ltOf cfS y z = true := by
        refine (cfS_lt y z).2 ?_
        rcases (cfS_lt y x).1 hyx with h3 | h3 <;> rcases (cfS_lt x z).1 h with h4 | h4
        · exact .inl (by omega)
        · exact .inl (by omega)
        · exact .inl (by omega)
        · exact .inr ⟨by omega, cmpT_trans _ _ _ h3.2 h4.2⟩
      exact h2 hyz
    · have hxy : x = y := cfS_total x y (Bool.eq_false_iff.2 h1) (Bool.eq_false_iff.2 hyx)
      rw [hxy] at h
      exact h2 h
theorem sets_calls (l : List Int) (A0 : Option Addr) (c0 : Nat) (q : Int) (hl8 : l.length ≤ 8) (pw : Nat) (hpw : 2 ^ l.length = pw) (hall : impl_Vote_all.f l q = some ((pw : Int) - 1)) (K : Nat)
    (hcmp : ∀ s t : Nat, s < 256 → t < 256 → impl_compareSets.f K (bitsV s) (bitsV t) = some (cfS (bitsV s) (bitsV t)))
    (G : FuncId) (fn : Func) (hG : Tryd.prog.funcs[G]? = some fn) (hname : (fn.name == "runtime.NumGoroutine") = false) (hbody : fn.body.isSome = true) (bd caps : Array Value) (p : Nat → Bool) (w : World)
    (hg : 1 < w.heap.size) (hT : Go.Proofs.TabAt 1 Lib.deBruijn64tab w) (hr0 : Kd.C (Kd.int .i64) w A0 l.length l) (hc0 : l.length ≤ c0)
    (hf : ∀ s : Nat, s < pw → ∀ W, Below w.heap.size w W → Calls Tryd.prog G (bd.push (.int .i64 (s : Int)) ++ caps) W fun e W' => e = .returned (.bool (p s)) ∧ Below W.heap.size W W') :
    Calls Tryd.prog 35 #[.agg #[.slice A0 l.length c0, .int .i64 q], .func (.func G) bd caps] w fun e w' => ∃ v0_ : Value, e = .returned v0_ ∧ Kd.S (Kd.slice 3 (Kd.int .i64)) 24 w' w.heap.size (fun _ => True) v0_ (sortL cfS (((List.range pw).filter p).map bitsV)) ∧ Below w.heap.size w w' := by
  have HB := aM (Below.refl w.heap.size w)
  have HF := aM hf
  have HT := aM hT
  have HG := aM hg
  have HR0 := aM hr0
  have HC0 := aM hc0
  have HALL := aM hall
  have HCMP := aM hcmp
  have hp : pw ≤ 256 := hpw ▸ Nat.pow_le_pow_right (n := 2) (by decide) hl8
  have HP := aM hp
  have hwp : wrap64 (pw : Int) = (pw : Int) := by unfold wrap64; omega
  clear hf hT hg hr0 hc0 hall hcmp hp hpw hl8
  have hu28 := Tryd.underlying26
  go_enter Tryd.func35, Tryd.ntmps35
  go_wp2_with (first | ((with_reducible refine gate_dst (N := 7) rfl ?_); refine Kd.S_lit (Kd.slice 3 (Kd.int .i64)) _ 24 ?hg (N := 7) ?hd (xs := ([] : List (List Int))) (inner := []) (ok := fun _ => True) (okp := fun _ => True) ?hr ?hp (fun _ hk => hk) trivial (Below.refl _ _) (Nat.le_refl _) (by simp) ?_; (case hd => rfl); (case hg => rfl); (case hr => first | (go_simp; done) | (go_simp; rfl)); (case hp => exact (Reps.none _ _)); intro v102 w2 ho3 hb hg_ hnew_; clear hg_ hnew_; have BK := aM (show w2.heap[w.heap.size]? = some (.cells #[.slice A0 l.length c0, .int .i64 q] 26 (0, 0)) from bB (blk_new w _) hb); have hcB0 := (bC BK.out 0).trans rfl; have hcB1 := (bC BK.out 1).trans rfl; have HO := aM (Kd.S_lower ho3 (below_size (xH HB.out))); replace HB := yS0 HB hb; clear hb ho3) | (go_at_call 45; (with_reducible refine (impl_Vote_all.calls _ _ l q _ _ ?s1 ?s2 HALL.out).mono ?_); (case s1 => exact (Kd.C_below HR0.out (xH HB.out))); (case s2 => exact HC0.out); rintro e w3 ⟨rfl, hb⟩; have HO := aM (Kd.S_below (xS HO.out) hb); have HB := yS0 HB hb; clear hb hcB0 hcB1 BK))
  (try rw [hwp])
  go_loopw [5, 11] (fun v5 v11 w' => ∃ s : Nat, v11 = .int .i64 (s : Int) ∧ Aside0 (s ≤ pw) ∧ Aside0 (Kd.S (Kd.slice 3 (Kd.int .i64)) 24 w' w.heap.size (fun _ => True) v5 (((List.range s).filter p).map bitsV)) ∧ Aside0 (Below w.heap.size w w')) (fun _ v11 _ => pw - (intOf v11).toNat)
  case atStart => exact ⟨0, rfl, ⟨Nat.zero_le _⟩, ⟨xS HO.out⟩, ⟨(xH HB.out)⟩⟩
  case round =>
    clear HO HB
    obtain ⟨s, rfl, HJ, HO, HB⟩ := hrel
    by_cases cs : s < pw
    · have d0 : decide ((s : Int) < (pw : Int)) = true := decide_eq_true (by omega)
      have d1 : decide (s < pw) = true := decide_eq_true cs
      have HSL := aM cs
      have hsb : (s : Int) ≤ 256 := by have := HP.out; have := HSL.out; omega
      have h0s : (0 : Int) ≤ (s : Int) := by omega
      have hke := HF.out s HSL.out
      have hE := fun args W => enters_ hG hname hbody args W
      have hlen : (((List.range s).filter p).map bitsV).length ≤ 256 := by rw [List.length_map]; exact Nat.le_trans (List.length_filter_le _ _) (by rw [List.length_range]; have := HP.out; have := HSL.out; omega)
      have HNX := aM (show ((List.range (s + 1)).filter p).map bitsV = ((List.range s).filter p).map bitsV ++ (if p s = true then [bitsV s] else []) by rw [List.range_succ, List.filter_append, List.map_append]; cases hb_ : p s <;> simp [hb_, List.filter_cons])
      cases hb_ : p s with
      | false =>
        rw [hb_] at hke
        have HKE := aM hke
        clear hke
        go_wp2_with (first | ((with_reducible refine (HKE.out _ (xH HB.out)).mono ?_); rintro e w15 ⟨rfl, hb⟩; have HO := aM (Kd.S_below (xS HO.out) hb); have HB := yS0 HB hb))
        go_roundw
        case rel => exact ⟨s + 1, by go_num, ⟨HSL.out⟩, ⟨by rw [HNX.out, hb_, if_neg (by decide), List.append_nil]; exact HO.out⟩, HB⟩
        case measure => have := HSL.out; simp [intOf]; omega
      | true =>
        rw [hb_] at hke
        have HKE := aM hke
        clear hke
        have hm := fun W hT => members_calls s (by have := HP.out; have := HSL.out; omega) W hT
        have HM := aM hm
        clear hm
        obtain ⟨row, hrow⟩ : ∃ row, bitsV s = row := ⟨_, rfl⟩
        rw [hrow] at HM
        have HROW := aM hrow
        clear hrow
        go_wp2_with (first | (go_at_call 37; (with_reducible refine (HM.out _ ?hg ?hT).mono ?_); (case hg => exact (Nat.lt_of_lt_of_le HG.out (below_size (xH HB.out)))); (case hT => exact tab_below HT.out HG.out (xH HB.out)); rintro e w15 ⟨vr, rfl, hr, hb⟩; obtain ⟨Ah, ch, rfl⟩ := Kd.R_slice hr; have HO := aM (Kd.S_elder' (xS HO.out) (Kd.R_base hr) hb); have HH := aM (Kd.R_lower hr (below_size (xH HB.out))); have HB := yS0 HB hb) | ((with_reducible refine gate_builtin (b := .append) (xs := #[.tmp 17, .tmp 20]) rfl ?_); at_builtin; refine Kd.S_append (Kd.slice 3 (Kd.int .i64)) (w0 := w) w.heap.size rfl (.tmp 17) (.tmp 20) 31 24 (.slice none 0 0) 24 rfl Tryd.underlying31 info24 rfl (by decide) (by omega) u5 (((List.range s).filter p).map bitsV) row [.slice Ah row.length ch] (fun _ => True) (fun k_ => some k_ = (.slice Ah row.length ch : Value).ownBlock) rfl rfl ?aP (fun k_ hk_ => ((rM (ok' := fun k_ => ((fun _ => True)) k_ ∧ some k_ ≠ (u5 : Value).ownBlock) (Kd.R_apart' (HH.out) (Kd.S_typed HO.out) (by decide)) (fun k_ hk => ⟨trivial, hk.2⟩))).1 k_ hk_.symm) ?aF ?aO ?aB ?aS ?aL ?_; (case aP => exact Kd.M_row (rM (Kd.R_tight rfl (rM (ok' := fun k_ => ((fun _ => True)) k_ ∧ some k_ ≠ (u5 : Value).ownBlock) (Kd.R_apart' (HH.out) (Kd.S_typed HO.out) (by decide)) (fun k_ hk => ⟨trivial, hk.2⟩))) (fun _ h_ => h_))); (case aB => exact (xH HB.out)); (case aF => exact (fun _ _ => trivial)); (case aO => exact (zS (Kd.S_mono HO.out (fun k_ hk => ⟨trivial, fun e_ => hk.2 e_⟩)))); (case aS => exact (below_size (xH HB.out))); (case aL => omega); intro v111 w16 ho hb hg hat; replace HB := aM (hb); replace HO := aM (ho); clear HH; clear ho hb hg hat) | ((with_reducible refine (HKE.out _ (xH HB.out)).mono ?_); rintro e w15 ⟨rfl, hb⟩; have HO := aM (Kd.S_below (xS HO.out) hb); have HB := yS0 HB hb))
        go_roundw
        case rel => exact ⟨s + 1, by go_num, ⟨HSL.out⟩, ⟨by rw [HNX.out, hb_, if_pos rfl, HROW.out]; exact HO.out⟩, HB⟩
        case measure => have := HSL.out; simp [intOf]; omega
    · have d0 : decide ((s : Int) < (pw : Int)) = false := decide_eq_false (by omega)
      have d1 : decide (s < pw) = false := decide_eq_false cs
      have e : s = pw := by have := HJ.out; omega
      have h1 := HO.out
      rw [e] at h1
      clear HO
      have HO := aM h1
      have hlen : (((List.range pw).filter p).map bitsV).length ≤ 256 := by rw [List.length_map]; exact Nat.le_trans (List.length_filter_le _ _) (by rw [List.length_range]; exact HP.out)
      have hmem : ∀ x ∈ ((List.range pw).filter p).map bitsV, ∃ t : Nat, t < 256 ∧ x = bitsV t := by
        intro x hx
        obtain ⟨t, ht, rfl⟩ := List.mem_map.1 hx
        have := List.mem_range.1 (List.mem_filter.1 ht).1
        have := HP.out
        exact ⟨t, by omega, rfl⟩
      have hso := fun w5 (hB5 : Below w.heap.size w w5) (ho5 : Kd.S (Kd.slice 3 (Kd.int .i64)) 24 w5 w.heap.size (fun _ => True) u5 (((List.range pw).filter p).map bitsV)) =>
        sortS 55 (fun args W => enters_ Tryd.func55 (by kernel_rfl) rfl args W) cfS cfS_swo cfS_total (fun _ => True) u5 _ w.heap.size w w5 hB5 rfl ho5 (by omega) (by
          intro x hx y hy W A c A' c' h1 h2 h3 h4
          obtain ⟨s1, hs1, rfl⟩ := hmem x hx
          obtain ⟨s2, hs2, rfl⟩ := hmem y hy
          refine (impl_compareSets.calls K A c (bitsV s1) A' c' (bitsV s2) _ W h1 h2 h3 h4 (HCMP.out s1 s2 hs1 hs2)).mono ?_
          rintro e w' ⟨rfl, n, rfl⟩
          exact ⟨rfl, n, rfl⟩)
      have HSO := aM hso
      clear hso hmem h1 e cs
      obtain ⟨fin, hfin⟩ : ∃ fin, ((List.range pw).filter p).map bitsV = fin := ⟨_, rfl⟩
      rw [hfin] at HO HSO hlen
      have HFIN := aM hfin
      clear hfin
      go_wp2_with (first | (go_at_call 54; (with_reducible refine (HSO.out _ ?hB ?ho).mono ?_); (case hB => exact (xH HB.out)); (case ho => exact (xS HO.out)); rintro e w5 ⟨rfl, ho, hb⟩; have HO := aM ho; have HB := aM hb))
      go_ret
      exact ⟨_, rfl, by rw [HFIN.out]; exact HO.out, HB.out⟩
def winV (k : Nat) (l : List Int) (q : Int) (t : Nat) : Bool := (impl_Vote_wins.f k l q (t : Int)).getD false
def clrN (s i : Nat) : Nat := s - s / 2 ^ i % 2 * 2 ^ i
def setN (s i : Nat) : Nat := s + (1 - s / 2 ^ i % 2) * 2 ^ i
theorem clrN_bits : ∀ s : Nat, s < 256 → ∀ i : Nat, i < 8 → Go.bits .andNot .i64 (s : Int) ((2 ^ i : Nat) : Int) = (clrN s i : Nat) ∧ clrN s i < 256 := by decide +kernel
theorem setN_bits : ∀ s : Nat, s < 256 → ∀ i : Nat, i < 8 → Go.bits .or .i64 (s : Int) ((2 ^ i : Nat) : Int) = (setN s i : Nat) ∧ setN s i < 256 := by decide +kernel
theorem bitsV_in {s : Nat} {x : Int} (h : x ∈ bitsV s) : ∃ i : Nat, i < 8 ∧ x = i := by
  obtain ⟨i, hi, rfl⟩ := List.mem_map.1 h
  exact ⟨i, List.mem_range.1 (List.mem_filter.1 hi).1, rfl⟩
def leastV (k : Nat) (l : List Int) (q : Int) (s : Nat) : Bool := ((bitsV s).all fun i => !(winV k l q (clrN s i.toNat))) && winV k l q s
def lossV (k : Nat) (l : List Int) (q : Int) (s : Nat) : Bool := ((bitsV (2 ^ l.length - 1 - s)).all fun i => winV k l q (setN s i.toNat)) && !(winV k l q s)
theorem all_step (L : List Int) (f : Int → Bool) (j : Nat) (h : j < L.length) (h1 : (L.take j).all f = true) (h2 : f (L.getD j 0) = true) : (L.take (j + 1)).all f = true := by
  rw [List.getD_eq_getElem?_getD, List.getElem?_eq_getElem h] at h2
  rw [List.take_succ_eq_append_getElem h, List.all_append, h1]; simpa using h2
theorem all_out (L : List Int) (f : Int → Bool) (j : Nat) (h : j < L.length) (h2 : f (L.getD j 0) = false) : L.all f = false := by
  rw [List.getD_eq_getElem?_getD, List.getElem?_eq_getElem h] at h2
  rw [List.all_eq_false]; exact ⟨L[j], List.getElem_mem h, by rw [show f L[j] = false from h2]; decide⟩
theorem least_closure (k : Nat) (l : List Int) (A0 : Option Addr) (c0 : Nat) (q : Int) (B : Nat) (s : Nat) (hs : s < 256) (W : World) (hBK : W.heap[B]? = some (.cells #[.slice A0 l.length c0, .int .i64 q] 26 (0, 0)))
    (hr : Kd.C (Kd.int .i64) W A0 l.length l) (hc : l.length ≤ c0) (hg : 1 < W.heap.size) (hT : Go.Proofs.TabAt 1 Lib.deBruijn64tab W) (hw : ∀ t : Nat, t < 256 → ∃ b, impl_Vote_wins.f k l q (t : Int) = some b) :
    Calls Tryd.prog 36 (#[].push (.int .i64 (s : Int)) ++ #[.pointer (some ⟨B, 0, none⟩)]) W fun e W' => e = .returned (.bool (leastV k l q s)) ∧ Below W.heap.size W W' := by
  have HB := aM (Below.refl W.heap.size W)
  have HR0 := aM hr
  have HC0 := aM hc
  have HW := aM hw
  have HS := aM hs
  have BK0 := aM hBK
  have hwv : ∀ t : Nat, t < 256 → impl_Vote_wins.f k l q (t : Int) = some (winV k l q t) := fun t ht => by
    obtain ⟨b, hb⟩ := hw t ht
    unfold winV; rw [hb]; rfl
  have HWV := aM hwv
  have hm := members_calls s hs
  obtain ⟨row, hrow⟩ : ∃ row, bitsV s = row := ⟨_, rfl⟩
  rw [hrow] at hm
  have HM := aM hm
  have HROW := aM hrow
  have HG := aM hg
  have HT := aM hT
  have HIN := aM (show ∀ x ∈ row, ∃ i : Nat, i < 8 ∧ x = i from fun x hx => bitsV_in (hrow ▸ hx))
  have hcB0 := (bC BK0.out 0).trans rfl
  have hcB1 := (bC BK0.out 1).trans rfl
  have hu28 := Tryd.underlying26
  clear hm hrow hg hT hw hs hr hc hBK hwv
  go_enter Tryd.func36, Tryd.ntmps36
  go_wp2_with (first | (go_at_call 37; (with_reducible refine (HM.out _ ?hg ?hT).mono ?_); (case hg => exact (Nat.lt_of_lt_of_le HG.out (below_size (xH HB.out)))); (case hT => exact tab_below HT.out HG.out (xH HB.out)); rintro e w15 ⟨vr, rfl, hr, hb⟩; obtain ⟨Ah, ch, rfl⟩ := Kd.R_slice hr; have n1_ := aM (Kd.R_lower hr (below_size (xH HB.out))); have n2_ := yS0 HB hb; clear HB HM hb hr; (try clear hcB0 hcB1); have HO := n1_; have HB := n2_; clear n1_ n2_))
  go_loopw [9] (fun v9 w' => ∃ j : Nat, v9 = .int .i64 (j : Int) ∧ Aside0 (j ≤ row.length ∧ (row.take j).all (fun i => !(winV k l q (clrN s i.toNat))) = true) ∧ Aside0 (Kd.R (Kd.int .i64) 3 w' W.heap.size (fun _ => True) (.slice Ah row.length ch) row) ∧ Aside0 (Below W.heap.size W w')) (fun v9 _ => row.length - (intOf v9).toNat)
  case atStart => exact ⟨0, rfl, ⟨Nat.zero_le _, rfl⟩, ⟨xR HO.out⟩, ⟨(xH HB.out)⟩⟩
  case round =>
    clear HO HB
    obtain ⟨j, rfl, HJ, HO, HB⟩ := hrel
    have BK := aM (bB BK0.out HB.out)
    have hcB0 := (bC BK.out 0).trans rfl
    have hcB1 := (bC BK.out 1).trans rfl
    by_cases c : j < row.length
    · have d0 : decide ((j : Int) < (row.length : Int)) = true := decide_eq_true (by omega)
      have d1 : decide (j < row.length) = true := decide_eq_true c
      have HC := aM c
      have hrl : row.length ≤ 8 := by rw [← HROW.out]; exact bitsV_len _ HS.out
      have h0j : (0 : Int) ≤ (j : Int) := by omega
      have hj8 : (j : Int) < 8 := by omega
      obtain ⟨i, hi8, hxi⟩ := HIN.out row[j] (List.getElem_mem c)
      obtain ⟨ad, e1, hcj⟩ := Kd.at_int (Kd.R_reads' HO.out).2.2 (j : Int) (by omega) (by omega)
      cases e1
      have hrd : rd row (j : Int) = (i : Int) := by unfold rd; rw [Int.toNat_natCast, List.getD_eq_getElem?_getD, List.getElem?_eq_getElem c]; exact hxi
      rw [hrd, Int.toNat_natCast] at hcj
      have HXI := aM (show row.getD j 0 = (i : Int) by rw [List.getD_eq_getElem?_getD, List.getElem?_eq_getElem c]; exact hxi)
      have HI8 := aM hi8
      have hi0 : (0 : Int) ≤ (i : Int) := by omega
      have hi64 : (i : Int) < 8 := by omega
      have hcl := (clrN_bits s HS.out i hi8).1
      have hlt := (clrN_bits s HS.out i hi8).2
      have hp2 : (2 : Int) ^ i = ((2 ^ i : Nat) : Int) := by simp
      obtain ⟨pi, hpi⟩ : ∃ pi : Int, ((2 ^ i : Nat) : Int) = pi := ⟨_, rfl⟩
      have hpib : 0 ≤ pi ∧ pi ≤ 128 := by
        have h7 : 2 ^ i ≤ 128 := Nat.pow_le_pow_right (n := 2) (j := 7) (by decide) (by omega)
        rw [← hpi]; exact ⟨Int.natCast_nonneg _, Int.ofNat_le.2 h7⟩
      have hji1 : IntKind.i64.wrap (1 * 2 ^ min (i : Int).toNat 64) = pi := by
        rw [Int.toNat_natCast, show min i 64 = i by omega, Int.one_mul, hp2, hpi, IntKind.wrap_i64]; omega
      have hji2 : IntKind.i64.wrap (2 ^ min (i : Int).toNat 64) = pi := by rw [← hji1, Int.one_mul]
      have hji3 : IntKind.i64.wrap (2 ^ i) = pi := by rw [hp2, hpi, IntKind.wrap_i64]; omega
      have hji4 : wrap64 (2 ^ i) = pi := by rw [hp2, hpi]; unfold wrap64; omega
      have hji5 : IntKind.i64.wrap (1 * 2 ^ i) = pi := by rw [Int.one_mul]; exact hji3
      rw [hpi] at hcl
      have hw1 := HWV.out _ hlt
      obtain ⟨bw, hbw⟩ : ∃ bw, winV k l q (clrN s i) = bw := ⟨_, rfl⟩
      rw [hbw] at hw1
      have HW1 := aM hw1
      have HBW := aM hbw
      have c1_ : (j : Int) < (row.length : Int) := by omega
      clear hrd hxi hi8 hlt hp2 hpi hpib hw1 hbw
      go_wp2
      have BKd := aM (bD BK.out)
      have HOd := aM (rD HO.out)
      have HBd := aM (eD HB.out)
      clear HO HB BK hcB0 hcB1
      refine start_ (n := 6) (S := fun w' => w'.cell? ⟨B, 0, none⟩ = some (.slice A0 l.length c0) ∧ w'.cell? ⟨B, 1, none⟩ = some (.int .i64 q)) (ds := []) (bm 6 0) (by kernel_rfl) rfl rfl ⟨(bC BKd.out 0).trans rfl, (bC BKd.out 1).trans rfl⟩ (fun hHeld => ?_)
      generalize wr.drew = wd at BKd HOd HBd hHeld ⊢
      refine pure_ (i := 1) (N := some 14) (v := ?_) (a' := ?_) (bm 6 2) rfl rfl (by kernel_rfl) (fun _ _ _ h => h) (Or.inl ⟨by rfl, ?_⟩) ?_ ?_
      rotate_left
      · intro w'
        go_simp
        with_reducible rfl
      rotate_left
      · simp only [Act.put, sA, sZ, sU, i64_w, i32_w]
        rfl
      refine pure_ (i := 2) (N := some 15) (v := ?_) (a' := ?_) (bm 6 6) rfl rfl (by kernel_rfl) (fun _ _ _ h => h) (Or.inl ⟨by rfl, ?_⟩) ?_ ?_
      rotate_left
      · intro w'
        go_simp
        with_reducible rfl
      rotate_left
      · simp only [Act.put, sA, sZ, sU, i64_w, i32_w]
        rfl
      refine pure_ (i := 3) (N := some 16) (v := ?_) (a' := ?_) (bm 6 14) rfl rfl (by kernel_rfl) (fun _ _ _ h => h) (Or.inl ⟨by rfl, ?_⟩) ?_ ?_
      rotate_left
      · intro w'
        go_simp
        with_reducible rfl
      rotate_left
      · simp only [Act.put, sA, sZ, sU, i64_w, i32_w]
        rfl
      refine pure_ (i := 4) (N := some 17) (v := ?_) (a' := ?_) (bm 6 30) rfl rfl (by kernel_rfl) (fun _ _ _ h => h) (Or.inl ⟨by rfl, ?_⟩) ?_ ?_
      rotate_left
      · intro w'
        go_simp
        with_reducible rfl
      rotate_left
      · simp only [Act.put, sA, sZ, sU, i64_w, i32_w]
        rfl
      refine take_ (i := 0) (N := some 13) (v := ?_) (a' := ?_) (bm 6 31) rfl rfl (by kernel_rfl) (fun _ _ _ h => h) (Or.inl ⟨by rfl, ?_⟩) hHeld ?_ ?_
      rotate_left
      · rintro w' ⟨s0, s1⟩
        first | (go_simp; with_reducible rfl) | (simp only [add_plain] at s0 s1; go_simp; with_reducible rfl)
      rotate_left
      · simp only [Act.put, sA, sZ, sU, i64_w, i32_w]
        rfl
      refine one_ (i := 5) (N := some 18) (bm 6 63) rfl rfl (by kernel_rfl) (by decide) (fun K hK => ?_)
      refine goes_ Tryd.func31 (by kernel_rfl) rfl #[.agg #[.slice A0 l.length c0, .int .i64 q], .int .i64 (((clrN s i : Nat) : Int))] (by rfl) rfl rfl (by simp only [List.map_toArray, List.map_cons, List.map_nil]; rfl) ?_
      with_reducible refine (impl_Vote_wins.calls k A0 c0 l q (((clrN s i : Nat) : Int)) bw _ (Kd.C_below HR0.out HBd.out) HC0.out HW1.out).mono ?_
      rintro e w3 ⟨rfl, hb⟩
      refine ⟨_, rfl, ?_⟩
      replace BKd := aM (bB BKd.out hb)
      have HO := aM (Kd.R_below HOd.out hb)
      have HB := aM (below_step HBd.out hb)
      clear HOd HBd hb
      refine hK.out _ _ ⟨(bC BKd.out 0).trans rfl, (bC BKd.out 1).trans rfl⟩ (fun hHeld => ?_)
      clear hK K
      refine norm_ (a' := ?_) ?_ ?_
      rotate_left
      · show Act.put _ (some 18) _ = _
        simp only [Act.put, sA, sZ, sU, i64_w, i32_w]
        rfl
      refine done_ (by kernel_rfl) ?_
      cases bw with
      | true =>
        go_wp2
        go_ret
        exact ⟨by have h2 := all_out row (fun i => !(winV k l q (clrN s i.toNat))) j HC.out (by simp only [HXI.out, Int.toNat_natCast, HBW.out]; try rfl); show _ = Ending.returned (.bool (leastV k l q s)); unfold leastV; rw [HROW.out, h2]; rfl, HB.out⟩
      | false =>
        go_wp2
        go_roundw
        case rel => exact ⟨j + 1, by go_num, ⟨HC.out, all_step row _ j HC.out HJ.out.2 (by simp only [HXI.out, Int.toNat_natCast, HBW.out]; try rfl)⟩, HO, HB⟩
        case measure => have := HC.out; simp [intOf]; omega
    · have d0 : decide ((j : Int) < (row.length : Int)) = false := decide_eq_false (by omega)
      have d1 : decide (j < row.length) = false := decide_eq_false c
      have e : j = row.length := by have := HJ.out.1; omega
      have hall := HJ.out.2
      rw [e, List.take_length] at hall
      have HALLR := aM hall
      have hw1 := HWV.out s HS.out
      obtain ⟨bw, hbw⟩ : ∃ bw, winV k l q s = bw := ⟨_, rfl⟩
      rw [hbw] at hw1
      have HW1 := aM hw1
      have HBW := aM hbw
      clear e hall c hw1 hbw
      go_wp2_with (first | (go_at_call 31; (with_reducible refine (impl_Vote_wins.calls k A0 c0 l q (s : Int) bw _ (Kd.C_below HR0.out (xH HB.out)) HC0.out HW1.out).mono ?_); rintro e w3 ⟨rfl, hb⟩; have n2_ := yS0 HB hb; clear HB hb hcB0 hcB1 BK HO; have HB := n2_; clear n2_))
      go_ret
      exact ⟨by show _ = Ending.returned (.bool (leastV k l q s)); unfold leastV; rw [HROW.out, HALLR.out, HBW.out]; cases bw <;> rfl, HB.out⟩
def OKV (k : Nat) (l : List Int) (q : Int) : Prop := l.length ≤ 8 ∧ (∀ t : Nat, t < 256 → (impl_Vote_wins.f k l q (t : Int)).isSome = true) ∧ (∀ s : Nat, s < 256 → ∀ t : Nat, t < 256 → impl_compareSets.f k (bitsV s) (bitsV t) = some (cfS (bitsV s) (bitsV t))) ∧ impl_Vote_all.f l q = some (((2 ^ l.length : Nat) : Int) - 1)
instance OKV.dec (k : Nat) (l : List Int) (q : Int) : Decidable (OKV k l q) := by unfold OKV; infer_instance
theorem OKV.up {k : Nat} {l : List Int} {q : Int} (h : OKV k l q) : OKV (k + 1) l q ∧ ∀ t : Nat, t < 256 → winV (k + 1) l q t = winV k l q t := by
  obtain ⟨h1, h2, h3, h4⟩ := h
  refine ⟨⟨h1, fun t ht => ?_, fun s hs t ht => impl_compareSets.mono _ _ _ _ (h3 s hs t ht), h4⟩, fun t ht => ?_⟩
  · obtain ⟨b, hb⟩ := Option.isSome_iff_exists.1 (h2 t ht)
    rw [impl_Vote_wins.mono _ _ _ _ _ hb]; rfl
  · obtain ⟨b, hb⟩ := Option.isSome_iff_exists.1 (h2 t ht)
    unfold winV
    rw [impl_Vote_wins.mono _ _ _ _ _ hb, hb]
theorem filter_congr_ {α : Type} (p p' : α → Bool) (L : List α) (h : ∀ x ∈ L, p x = p' x) : L.filter p = L.filter p' := List.filter_congr h
theorem all_congr_ {α : Type} (p p' : α → Bool) (L : List α) (h : ∀ x ∈ L, p x = p' x) : L.all p = L.all p' := by
  induction L with
  | nil => rfl
  | cons a L ih => rw [List.all_cons, List.all_cons, h a List.mem_cons_self, ih fun x hx => h x (List.mem_cons_of_mem _ hx)]
def impl_LeastWins.f (k : Nat) (l0 : List Int) (a1 : Int) : Option (List (List Int) × Bool) := (impl_IsVote.f k l0 a1).bind fun t => if t = true then (if OKV k l0 a1 then some (sortL cfS (((List.range (2 ^ l0.length)).filter (leastV k l0 a1)).map bitsV), true) else none) else some ([], false)
theorem impl_LeastWins.calls (k : Nat) (A0 : Option Addr) (c0 : Nat) (l0 : List Int) (a1 : Int) (r1 : List (List Int)) (r2 : Bool) (w : World) (hr0 : Kd.C (Kd.int .i64) w A0 l0.length l0) (hc0 : l0.length ≤ c0) (h : impl_LeastWins.f k l0 a1 = some (r1, r2))
    (hg : 1 < w.heap.size) (hT : Go.Proofs.TabAt 1 Lib.deBruijn64tab w) :
    Calls Tryd.prog 8 #[.agg #[.slice A0 l0.length c0, .int .i64 a1]] w fun e w' => ∃ v0_ : Value, e = .returned (.tuple #[v0_, .bool r2]) ∧ Kd.S (Kd.slice 3 (Kd.int .i64)) 24 w' w.heap.size (fun _ => True) v0_ r1 ∧ Below w.heap.size w w' := by
  unfold impl_LeastWins.f at h
  obtain ⟨t, hv, h⟩ := oB.mp h
  have HV := aM hv
  have HR0 := aM hr0
  have HC0 := aM hc0
  have HG := aM hg
  have HT := aM hT
  have HB := aM (Below.refl w.heap.size w)
  have hu28 := Tryd.underlying26
  clear hv hr0 hc0 hg hT
  cases t with
  | false =>
    rw [if_neg (by simp)] at h
    cases h
    go_enter Tryd.func8, Tryd.ntmps8
    go_wp2_with (first | (refine yB 1 #[.slice A0 l0.length c0, .int .i64 a1] 26 ?_; intro gb hg wb hbox hb; have n0_ := yS0 HB hb; have BK := aM hbox; have GE := yV0 hg HB; have HLT := aM (blk_lt hbox); clear HB; have HB := n0_; clear n0_ hb hbox hg; have hcB0 := (bC BK.out 0).trans rfl; have hcB1 := (bC BK.out 1).trans rfl) | (go_at_call 10; (with_reducible refine (impl_IsVote.calls k A0 c0 l0 a1 false _ (Kd.C_below HR0.out (xH HB.out)) HC0.out HV.out).mono ?_); rintro e w3 ⟨rfl, hb⟩; have n2_ := yS0 HB hb; have n3_ := aM (bB BK.out hb); clear HB BK hb hcB0 hcB1; have HB := n2_; have BK := n3_; clear n2_ n3_; have hcB0 := (bC BK.out 0).trans rfl; have hcB1 := (bC BK.out 1).trans rfl))
    go_ret2
    exact ⟨_, rfl, Kd.S_nil _ _ _ _ _, (xH HB.out)⟩
  | true =>
    rw [if_pos rfl] at h
    by_cases c : OKV k l0 a1
    · rw [if_pos c] at h
      cases h
      have HK1 := aM (show l0.length ≤ 8 from c.1)
      have HK2 := aM (show ∀ s t : Nat, s < 256 → t < 256 → impl_compareSets.f k (bitsV s) (bitsV t) = some (cfS (bitsV s) (bitsV t)) from fun s t hs ht => c.2.2.1 s hs t ht)
      have HK3 := aM (show impl_Vote_all.f l0 a1 = some (((2 ^ l0.length : Nat) : Int) - 1) from c.2.2.2)
      have HWI := aM (show ∀ t : Nat, t < 256 → ∃ b, impl_Vote_wins.f k l0 a1 (t : Int) = some b from fun t ht => Option.isSome_iff_exists.1 (c.2.1 t ht))
      have HP := aM (show 2 ^ l0.length ≤ 256 from Nat.pow_le_pow_right (n := 2) (by decide) c.1)
      clear c
      have hfn : ∀ (gb : Nat) (w4 : World), Below w.heap.size w w4 → w4.heap[gb]? = some (.cells #[.slice A0 l0.length c0, .int .i64 a1] 26 (0, 0)) → ∀ s : Nat, s < 2 ^ l0.length → ∀ W, Below w4.heap.size w4 W → Calls Tryd.prog 36 (Array.push #[] (.int .i64 (s : Int)) ++ #[.pointer (some ⟨gb, 0, none⟩)]) W fun e W' => e = .returned (.bool (leastV k l0 a1 s)) ∧ Below W.heap.size W W' := by
        intro gb w4 hB4 hBK s hs W hW
        refine (least_closure k l0 A0 c0 a1 gb s (Nat.lt_of_lt_of_le hs HP.out) W (bB hBK hW) (Kd.C_below HR0.out (below_step hB4 hW)) HC0.out (Nat.lt_of_lt_of_le HG.out (Nat.le_trans (below_size hB4) (below_size hW))) (tab_below HT.out HG.out (below_step hB4 hW)) HWI.out).mono ?_
        rintro e W' h_
        exact h_
      have HFN := aM hfn
      clear hfn
      go_enter Tryd.func8, Tryd.ntmps8
      go_wp2_with (first | (refine yB 1 #[.slice A0 l0.length c0, .int .i64 a1] 26 ?_; intro gb hg wb hbox hb; have n0_ := yS0 HB hb; have BK := aM hbox; have GE := yV0 hg HB; have HLT := aM (blk_lt hbox); clear HB; have HB := n0_; clear n0_ hb hbox hg; have hcB0 := (bC BK.out 0).trans rfl; have hcB1 := (bC BK.out 1).trans rfl) | (go_at_call 10; (with_reducible refine (impl_IsVote.calls k A0 c0 l0 a1 true _ (Kd.C_below HR0.out (xH HB.out)) HC0.out HV.out).mono ?_); rintro e w3 ⟨rfl, hb⟩; have n2_ := yS0 HB hb; have n3_ := aM (bB BK.out hb); clear HB BK hb hcB0 hcB1; have HB := n2_; have BK := n3_; clear n2_ n3_; have hcB0 := (bC BK.out 0).trans rfl; have hcB1 := (bC BK.out 1).trans rfl) | (go_at_call 35; (with_reducible refine (sets_calls l0 A0 c0 a1 HK1.out (2 ^ l0.length) rfl HK3.out k HK2.out 36 Tryd.f36 Tryd.func36 (by kernel_rfl) rfl #[] #[.pointer (some ⟨gb, 0, none⟩)] (leastV k l0 a1) _ (Nat.lt_of_lt_of_le HG.out (below_size (xH HB.out))) (tab_below HT.out HG.out (xH HB.out)) (Kd.C_below HR0.out (xH HB.out)) HC0.out (HFN.out gb _ (xH HB.out) BK.out)).mono ?_); rintro e w5 ⟨vr, rfl, hr, hb⟩; have HS := aM (Kd.S_lower hr (below_size (xH HB.out))); have n2_ := yS0 HB hb; clear HB hr hb; have HB := n2_; clear n2_))
      go_ret2
      exact ⟨_, rfl, HS.out, (xH HB.out)⟩
    · rw [if_neg c] at h; cases h
end Go.Proofs.YtkgekmpnbhomgaaDoor.PFnVotes
