-- Laid for this claim by a program of the session's own (wip/tool/myprint.py).
import Derived.Test.YtihnmdnmjieffaaMFnExactShattersSetx0
import Derived.Test.YtihnmdnmjieffaaMFnExactShattersSetx4
import Derived.Test.YtihnmdnmjieffaaMFnExactShattersSetx6
namespace Go.Proofs.Ytihnmdnmjieffaa.PFnExactShattersSet
open Go.RowKit Go.Proofs.YtihnmdnmjieffaaW.PrintWords Go.Proofs.YtihnmdnmjieffaaW.PrintLast Go.Proofs.YtihnmdnmjieffaaW.PrintMore
attribute [local go_sem] max2_int min2_int max_two min_two max_three min_three max_four min_four   -- for this text's walks alone
set_option linter.unusedVariables false
set_option maxHeartbeats 8000000
set_option maxRecDepth 100000
set_option linter.unusedSimpArgs false

/-! ### impl_shatters: function 46 -/
/-- A list of rows, sorted (the order parts whatever two). -/
def sortL (cf : List Int → List Int → Int) (xs : List (List Int)) : List (List Int) := xs.mergeSort fun x y => !(decide (cf y x < 0))
open Go.Proofs Go.Lib Go.Sort Kd in
theorem sortS_heap {α : Type} [Inhabited α] (enc : α → Value) (w : World) (g m : Nat) (dk : Array α) (os : Array Obj) {cur : Array Value} {t : TypeId} (hheap : w.heap[g]? = some (.cells cur t (0, 0))) :
    (∀ k, k < w.heap.size → k ≠ g → (sortWorld enc w g 0 m dk os).heap[k]? = w.heap[k]?) ∧ (sortWorld enc w g 0 m dk os).heap[g]? = some (.cells (putCells enc 0 dk cur) t (0, 0)) ∧ w.heap.size ≤ (sortWorld enc w g 0 m dk os).heap.size := by
  have hgl : g < w.heap.size := (Array.getElem?_eq_some_iff.1 hheap).1
  have hsize0 : (Go.Sort.putRow enc (Go.Sort.ahead w m) g 0 dk).heap.size = w.heap.size := by
    simp [Go.Sort.putRow, Go.Sort.mapBlock, Go.Sort.ahead]
  have hold : ∀ k, k < w.heap.size → (sortWorld enc w g 0 m dk os).heap[k]? = (Go.Sort.putRow enc (Go.Sort.ahead w m) g 0 dk).heap[k]? := by
    intro k hk
    simp only [sortWorld, Go.Sort.grow]
    rw [Array.getElem?_append_left (by rw [hsize0]; exact hk)]
  refine ⟨fun k hk hne => ?_, ?_, ?_⟩
  · rw [hold k hk]
    simp only [Go.Sort.putRow, Go.Sort.mapBlock, Go.Sort.ahead, Array.getElem?_modify]
    rw [if_neg (fun h => hne h.symm)]
  · rw [hold g hgl]
    simp only [Go.Sort.putRow, Go.Sort.mapBlock, Go.Sort.ahead, Array.getElem?_modify]
    rw [if_pos trivial, hheap]
    rfl
  · simp only [sortWorld, Go.Sort.grow, Array.size_append]
    rw [hsize0]; exact Nat.le_add_right _ _
theorem sortS_ext {α : Type} (a : Array α) (n : Nat) (h : a.size = n) : a.extract 0 n = a := by subst h; exact Array.extract_size
open Go.Proofs Go.Lib Go.Sort Kd in
theorem sortS (G : Nat) (eg : ∀ args w, (callFunc G args).run Try.prog w = .ok (.enter G args) w) (cf : List Int → List Int → Int) (hO : SWO (ltOf cf)) (hT : ∀ x y, ltOf cf x y = false → ltOf cf y x = false → x = y)
    (P0_ : Nat → Prop) (u : Value) (xs : List (List Int)) (base : Nat) (w0 w : World) (hB : Below base w0 w) (hb0 : w0.heap.size = base)
    (ho : Kd.S (Kd.slice 3 (Kd.int .i64)) 22 w base P0_ u xs) (hsz : xs.length < 4611686018427387904)
    (hcmp : ∀ x ∈ xs, ∀ y ∈ xs, ∀ W A c A' c', Kd.C (Kd.int .i64) W A x.length x → x.length ≤ c → Kd.C (Kd.int .i64) W A' y.length y → y.length ≤ c' → Calls Try.prog G #[.slice A x.length c, .slice A' y.length c'] W fun e w' => e = .returned (.int .i64 (cf x y)) ∧ ∃ q, w' = W.drewN q) :
    Calls Try.prog 109 #[u, .func (.func G) #[] #[]] w fun e w' => e = .returned (.tuple #[]) ∧ Kd.S (Kd.slice 3 (Kd.int .i64)) 22 w' base P0_ u (sortL cf xs) ∧ Below base w0 w' := by
  rcases Nat.eq_zero_or_pos xs.length with hz | hpos
  · obtain rfl : xs = [] := List.eq_nil_of_length_eq_zero hz
    obtain ⟨A, c, rfl⟩ := Kd.S_slice ho
    refine (Try.slices_SortFunc_none (α := Unit) A c _ w).mono ?_
    rintro e w' ⟨rfl, rfl⟩
    exact ⟨rfl, by rw [show sortL cf [] = [] by simp [sortL]]; exact ho, hB⟩
  obtain ⟨f, h0, inner, hown, hr⟩ := ho
  rw [List.length_zipIdx] at hown
  obtain ⟨hil, hown⟩ := hown
  have hil1 : inner.length = xs.length := by rw [hil]; exact Nat.mul_one _
  rcases hown with ⟨_, hz⟩ | ⟨g, cap, cur, rfl, hg, hheap, hn, hcap, hszz, htake⟩
  · omega
  have hgl : g < w.heap.size := (Array.getElem?_eq_some_iff.1 hheap).1
  have hszz1 : cur.size = cap := by rw [hszz]; exact Nat.mul_one _
  have hPg : P0_ g := h0 g rfl
  obtain ⟨enc, henc⟩ : ∃ enc : Fin xs.length → Value, enc = fun j => inner.getD j.1 (.slice none 0 0) := ⟨_, rfl⟩
  have hat : ∀ j : Fin xs.length, inner[j.1]? = some (enc j) := by
    intro j
    rw [henc]
    simp only [List.getD_eq_getElem?_getD]
    rw [List.getElem?_eq_getElem (by omega)]; rfl
  have hR : ∀ j : Fin xs.length, (Kd.int .i64).R 3 w base (fun k => (P0_ k ∧ some k ≠ (Value.slice (some ⟨g, 0, none⟩) xs.length cap).ownBlock) ∧ f k = j.1) (enc j) xs[j] := by
    intro j
    have h1 := hr.2 j.1 (xs[j], j.1) (zip_at (List.getElem?_eq_getElem j.2))
    obtain ⟨v, hv, h2⟩ := h1
    have hd : (inner.drop (j.1 * (tag f (slice 3 (Kd.int .i64))).sz)).take (tag f (slice 3 (Kd.int .i64))).sz = [enc j] := by
      show (inner.drop (j.1 * 1)).take 1 = [enc j]
      rw [Nat.mul_one, List.drop_eq_getElem_cons (by omega)]
      have := hat j
      rw [List.getElem?_eq_getElem (by omega)] at this
      rw [Option.some.inj this]; rfl
    rw [hd] at hv
    have : enc j = v := by simpa using hv
    rw [this]; exact h2
  have hne : ∀ k, some k ≠ (Value.slice (some ⟨g, 0, none⟩) xs.length cap).ownBlock → k ≠ g := fun k hk e => hk (by rw [e]; rfl)
  haveI : Inhabited (Fin xs.length) := ⟨⟨0, hpos⟩⟩
  have h1c : OneCell enc := fun j => (Kd.R_val (hR j)).2
  obtain ⟨cf', hcf'⟩ : ∃ cf' : Fin xs.length → Fin xs.length → Int, cf' = fun i j => cf xs[i] xs[j] := ⟨_, rfl⟩
  have hO' : SWO (ltOf cf') := by
    subst hcf'
    exact ⟨fun x => hO.irrefl _, fun x y z => hO.trans _ _ _, fun x y z => hO.ntrans _ _ _⟩
  obtain ⟨d, hd⟩ : ∃ d : Array (Fin xs.length), d = (List.finRange xs.length).toArray := ⟨_, rfl⟩
  have hds : d.size = xs.length := by rw [hd]; simp
  have hH : Holds enc w g 0 d := by
    intro j hj
    have hj' : j < xs.length := by omega
    have hdj : d[j]! = (⟨j, hj'⟩ : Fin xs.length) := by
      rw [getElem!_pos d j hj]
      subst hd
      simp [List.getElem_finRange]
    rw [hdj, Nat.zero_add]
    refine ⟨?_, by simp [World.frozen?, hheap]⟩
    rw [cell_of_row w g j cur 22 (0, 0) hheap]
    have h2 := hat ⟨j, hj'⟩
    rw [← htake, List.getElem?_take, if_pos (by rw [show (tag f (slice 3 (Kd.int .i64))).sz = 1 from rfl]; omega), Array.getElem?_toList] at h2
    exact h2
  have hstep : ∀ (m : Nat) (os : Array Obj) (dk : Array (Fin xs.length)) (j : Fin xs.length), (Kd.int .i64).R 3 (sortWorld enc w g 0 m dk os) base (fun k => (P0_ k ∧ some k ≠ (Value.slice (some ⟨g, 0, none⟩) xs.length cap).ownBlock) ∧ f k = j.1) (enc j) xs[j] := fun m os dk j =>
    Kd.R_step (hR j) (fun k hk hlt => (sortS_heap enc w g m dk os hheap).1 k hlt (hne k hk.1.2))
  have hcl : CmpLays1 Try.prog G #[] enc cf' g 0 d.size w := by
    intro m os dk hdk i j
    obtain ⟨Ai, ci, hi⟩ := Kd.R_slice (hR i)
    obtain ⟨Aj, cj, hj⟩ := Kd.R_slice (hR j)
    have hsi := hstep m os dk i
    have hsj := hstep m os dk j
    rw [hi] at hsi
    rw [hj] at hsj
    have hci := Kd.R_reads' hsi
    have hcj := Kd.R_reads' hsj
    rw [hi, hj, hcf']
    refine (hcmp xs[i] (List.getElem_mem _) xs[j] (List.getElem_mem _) _ Ai ci Aj cj hci.2.2 hci.2.1 hcj.2.2 hcj.2.1).mono ?_
    rintro e w' ⟨rfl, q, rfl⟩
    exact ⟨rfl, q, #[], by rw [grow_empty]⟩
  have hfin := Try.slices_SortFunc enc h1c cf' hO' G #[] g 0 cap d w eg hcl hH hgl (by omega)
  rw [hds] at hfin
  refine hfin.mono ?_
  rintro e w' ⟨rfl, d', q, os, hp, hs, rfl⟩
  obtain ⟨hps, _, hperm⟩ := hp
  have hds' : d'.size = xs.length := by omega
  have hdk : ∀ j, j < xs.length → j < d'.size := fun j h => Nat.lt_of_lt_of_eq h hds'.symm
  have hperm' : d'.toList.Perm (List.finRange xs.length) := by
    have e1 : d'.extract 0 xs.length = d' := sortS_ext d' _ hds'
    have e2 : d.extract 0 xs.length = d := sortS_ext d _ hds
    rw [e1, e2, hd] at hperm
    simpa using hperm
  have hmapg : (List.finRange xs.length).map (fun j => xs[j]) = xs := by
    apply List.ext_getElem
    · simp
    · intro k h1 h2; simp [List.getElem_finRange]
  obtain ⟨ys, hys⟩ : ∃ ys, ys = d'.toList.map (fun j => xs[j]) := ⟨_, rfl⟩
  have hyl : ys.length = xs.length := by rw [hys, List.length_map, Array.length_toList]; exact hds'
  have hyp : ys.Perm xs := by rw [hys]; exact (hperm'.map _).trans (by rw [hmapg])
  have hysort : ys.Pairwise (fun x y => (!(decide (cf y x < 0))) = true) := by
    rw [List.pairwise_iff_getElem]
    intro i j hi hj hij
    have hi' : i < d'.size := by omega
    have hj' : j < d'.size := by omega
    have := hs i j (Nat.zero_le _) hij (by omega)
    rw [getElem!_pos d' i hi', getElem!_pos d' j hj', hcf'] at this
    subst hys
    simp only [List.getElem_map, Array.getElem_toList]
    simpa [ltOf] using this
  have hle : ∀ x y, (!(decide (cf y x < 0))) = true → (!(decide (cf x y < 0))) = true → x = y := by
    intro x y h1 h2
    exact hT x y (by simpa [ltOf] using h2) (by simpa [ltOf] using h1)
  have htr : ∀ a b c : List Int, (!(decide (cf b a < 0))) = true → (!(decide (cf c b < 0))) = true → (!(decide (cf c a < 0))) = true := by
    intro a b c h1 h2
    have := hO.ntrans c b a (by simpa [ltOf] using h2) (by simpa [ltOf] using h1)
    simpa [ltOf] using this
  have htot : ∀ a b : List Int, ((!(decide (cf b a < 0))) || (!(decide (cf a b < 0)))) = true := by
    intro a b
    by_cases h : cf b a < 0
    · by_cases h' : cf a b < 0
      · have := hO.trans a b a (by simpa [ltOf] using h') (by simpa [ltOf] using h)
        rw [hO.irrefl] at this; cases this
      · simp [h']
    · simp [h]
  have hyeq : ys = sortL cf xs := by
    refine List.Perm.eq_of_pairwise (le := fun x y => (!(decide (cf y x < 0))) = true) (fun a b _ _ => hle a b) hysort (List.pairwise_mergeSort htr htot xs) (hyp.trans (List.mergeSort_perm _ _).symm)
  rw [← hyeq]
  have hW := sortS_heap enc w g q d' os hheap
  refine ⟨rfl, ?_, hB.os, hB.tape, hB.output, Nat.le_trans hB.size hW.2.2, fun k hk => (hW.1 k (by have := hB.size; omega) (by omega)).trans (hB.block k hk)⟩
  obtain ⟨inn, hinn⟩ : ∃ inn, inn = d'.toList.map enc := ⟨_, rfl⟩
  have hinl : inn.length = xs.length := by rw [hinn, List.length_map, Array.length_toList]; exact hds'
  have hdat : ∀ j (h : j < xs.length), ys[j]? = some (xs.get (d'[j]'(hdk j h))) ∧ inn[j]? = some (enc (d'[j]'(hdk j h))) := by
    intro j h
    rw [hys, hinn, List.getElem?_map, List.getElem?_map, Array.getElem?_toList, Array.getElem?_eq_getElem (hdk j h)]
    exact ⟨rfl, rfl⟩
  have hinj : ∀ i j (hi : i < xs.length) (hj : j < xs.length), (d'[i]'(hdk i hi)).1 = (d'[j]'(hdk j hj)).1 → i = j := by
    intro i j hi hj he
    have hnd : d'.toList.Nodup := hperm'.nodup_iff.2 (by
      rw [List.nodup_iff_pairwise_ne, List.pairwise_iff_getElem]
      intro a b ha hb hab h
      simp [List.getElem_finRange] at h
      omega)
    rw [List.nodup_iff_pairwise_ne, List.pairwise_iff_getElem] at hnd
    rcases Nat.lt_trichotomy i j with h | h | h
    · exact absurd (by rw [Array.getElem_toList, Array.getElem_toList]; exact Fin.ext he) (hnd i j (by rw [Array.length_toList]; exact hdk i hi) (by rw [Array.length_toList]; exact hdk j hj) h)
    · exact h
    · exact absurd (by rw [Array.getElem_toList, Array.getElem_toList]; exact (Fin.ext he).symm) (hnd j i (Nat.lt_of_lt_of_eq (hdk j hj) Array.length_toList.symm) (Nat.lt_of_lt_of_eq (hdk i hi) Array.length_toList.symm) h)
  obtain ⟨f', hf'⟩ := reps_tag (d := slice 3 (Kd.int .i64)) (w := sortWorld enc w g 0 q d' os) (base := base) (ok := fun k => P0_ k ∧ some k ≠ (Value.slice (some ⟨g, 0, none⟩) xs.length cap).ownBlock) (xs := ys) (inner := inn)
    (fun j k => ∃ h : j < xs.length, (P0_ k ∧ some k ≠ (Value.slice (some ⟨g, 0, none⟩) xs.length cap).ownBlock) ∧ f k = (d'[j]'(hdk j h)).1)
    (fun i j k ⟨hi, _, h1⟩ ⟨hj, _, h2⟩ => hinj i j hi hj (by rw [← h1, ← h2])) (fun j k ⟨_, h, _⟩ => h)
    (by rw [hinl, hyl]; exact (Nat.mul_one _).symm) (by
      intro j x hx
      have hj : j < xs.length := by have := (List.getElem?_eq_some_iff.1 hx).1; omega
      obtain ⟨h1, h2⟩ := hdat j hj
      rw [h1] at hx
      obtain rfl := Option.some.inj hx
      show ∃ v, (inn.drop (j * 1)).take 1 = [v] ∧ _
      refine ⟨enc (d'[j]'(hdk j hj)), ?_, rM (hstep q os d' (d'[j]'(hdk j hj))) (fun k hk => ⟨hj, hk.1, hk.2⟩)⟩
      rw [Nat.mul_one, List.drop_eq_getElem_cons (by omega)]
      rw [List.getElem?_eq_getElem (by omega)] at h2
      rw [Option.some.inj h2]; rfl)
  refine ⟨f', fun k hk => by have : g = k := by simpa [Value.ownBlock] using hk
                             exact this ▸ hPg, inn, ?_, hf'⟩
  rw [List.length_zipIdx, hyl]
  refine ⟨by rw [hinl]; exact (Nat.mul_one _).symm, .inr ⟨g, cap, putCells enc 0 d' cur, rfl, hg, hW.2.1, hn, hcap, by simp only [putCells, Array.size_mapIdx]; exact hszz, ?_⟩⟩
  apply List.ext_getElem?
  intro k
  rw [List.getElem?_take]
  by_cases hk : k < xs.length
  · rw [if_pos (by rw [show (tag f' (slice 3 (Kd.int .i64))).sz = 1 from rfl]; omega), Array.getElem?_toList, (hdat k hk).2]
    have hkc : k < cur.size := by omega
    simp only [putCells, Array.getElem?_mapIdx, Array.getElem?_eq_getElem hkc, Option.map_some]
    rw [if_pos ⟨Nat.zero_le _, by omega⟩, Nat.sub_zero, getElem!_pos d' k (by omega)]
  · rw [if_neg (by rw [show (tag f' (slice 3 (Kd.int .i64))).sz = 1 from rfl]; omega), List.getElem?_eq_none (by omega)]
/-- Two lists in lexicographic order, a beginning ahead of the whole. -/
def cmpT : List Int → List Int → Int
  | [], [] => 0
  | [], _ :: _ => -1
  | _ :: _, [] => 1
  | x :: a, y :: b => if x < y then -1 else if y < x then 1 else cmpT a b
theorem cmpT_self : ∀ x : List Int, cmpT x x = 0
  | [] => rfl
  | x :: a => by unfold cmpT; rw [if_neg (by omega), if_neg (by omega)]; exact cmpT_self a
theorem cmpT_trans : ∀ x y z : List Int, cmpT x y < 0 → cmpT y z < 0 → cmpT x z < 0
  | [], [], z, h, _ => by simp [cmpT] at h
  | [], _ :: _, [], _, h => by simp [cmpT] at h
  | [], _ :: _, _ :: _, _, _ => by simp [cmpT]
  | _ :: _, [], _, h, _ => by simp [cmpT] at h
  | _ :: _, _ :: _, [], _, h => by simp [cmpT] at h
  | x :: a, y :: b, z :: c, h1, h2 => by
    unfold cmpT at h1 h2 ⊢
    by_cases c1 : x < y
    · by_cases c2 : y < z
      · rw [if_pos (by omega)]; decide
      · rw [if_neg c2] at h2
        by_cases c3 : z < y
        · rw [if_pos c3] at h2; omega
        · rw [if_pos (by omega)]; decide
    · rw [if_neg c1] at h1
      by_cases c3 : y < x
      · rw [if_pos c3] at h1; omega
      · rw [if_neg c3] at h1
        by_cases c2 : y < z
        · rw [if_pos (by omega)]; decide
        · rw [if_neg c2] at h2
          by_cases c4 : z < y
          · rw [if_pos c4] at h2; omega
          · rw [if_neg c4] at h2
            rw [if_neg (by omega), if_neg (by omega)]
            exact cmpT_trans a b c h1 h2
theorem cmpT_tot : ∀ x y : List Int, ¬ cmpT x y < 0 → ¬ cmpT y x < 0 → x = y
  | [], [], _, _ => rfl
  | [], _ :: _, h, _ => by simp [cmpT] at h
  | _ :: _, [], _, h => by simp [cmpT] at h
  | x :: a, y :: b, h1, h2 => by
    unfold cmpT at h1 h2
    by_cases c1 : x < y
    · rw [if_pos c1] at h1; omega
    · by_cases c3 : y < x
      · rw [if_pos c3] at h2; omega
      · rw [if_neg c1, if_neg c3] at h1
        rw [if_neg c3, if_neg c1] at h2
        rw [cmpT_tot a b h1 h2, show x = y by omega]
theorem cmpT_total (x y : List Int) (h1 : Go.Proofs.ltOf cmpT x y = false) (h2 : Go.Proofs.ltOf cmpT y x = false) : x = y :=
  cmpT_tot x y (of_decide_eq_false h1) (of_decide_eq_false h2)
theorem cmpT_swo : Go.Sort.SWO (Go.Proofs.ltOf cmpT) where
  irrefl x := by
    show decide (cmpT x x < 0) = false
    rw [cmpT_self]; rfl
  trans x y z h1 h2 := decide_eq_true (cmpT_trans x y z (of_decide_eq_true h1) (of_decide_eq_true h2))
  ntrans x y z h1 h2 := by
    rw [Bool.eq_false_iff] at h1 h2 ⊢
    intro h
    by_cases hyx : Go.Proofs.ltOf cmpT y x = true
    · exact h2 (decide_eq_true (cmpT_trans y x z (of_decide_eq_true hyx) (of_decide_eq_true h)))
    · have hxy : x = y := cmpT_total x y (Bool.eq_false_iff.2 h1) (Bool.eq_false_iff.2 hyx)
      rw [hxy] at h
      exact h2 h
/-- How many rows are left of the first m when equal neighbours become one. -/
def chg (xs : List (List Int)) : Nat → Nat
  | 0 => 0
  | 1 => 1
  | m + 2 => chg xs (m + 1) + (if xs.getD (m + 1) [] = xs.getD m [] then 0 else 1)
theorem chg_le (xs : List (List Int)) : ∀ m, chg xs m ≤ m
  | 0 => Nat.le_refl _
  | 1 => Nat.le_refl _
  | m + 2 => by
    have := chg_le xs (m + 1)
    unfold chg
    split <;> omega
theorem chg_pos (xs : List (List Int)) : ∀ m, 1 ≤ chg xs (m + 1)
  | 0 => Nat.le_refl _
  | m + 1 => by
    have := chg_pos xs m
    unfold chg
    omega
/-- what holds while equal neighbours are struck: the headers from j0 on stand as they stood -/
structure CpSt (w0 w : World) (g n cap : Nat) (enc : Nat → Value) (t : TypeId) (W : World) (j0 : Nat) : Prop where
  off : ∀ k, k < w.heap.size → k ≠ g → W.heap[k]? = w.heap[k]?
  cells : ∃ cur : Array Value, W.heap[g]? = some (.cells cur t (0, 0)) ∧ cur.size = cap ∧ (∀ j, j0 ≤ j → j < n → cur[j]? = some (enc j)) ∧ (∀ j, j < n → ∃ A l c, cur[j]? = some (.slice A l c))
  bel : Below w0.heap.size w0 W
  siz : w.heap.size ≤ W.heap.size
section
variable {w0 w W W1 : World} {g n cap j0 : Nat} {enc : Nat → Value} {t : TypeId}
theorem CpSt.below (h : CpSt w0 w g n cap enc t W j0) (hb : Below W.heap.size W W1) : CpSt w0 w g n cap enc t W1 j0 := by
  obtain ⟨cur, h1, h2, h3, h4⟩ := h.cells
  exact ⟨fun k hk hne => (hb.block k (Nat.lt_of_lt_of_le hk h.siz)).trans (h.off k hk hne), ⟨cur, bB h1 hb, h2, h3, h4⟩, below_step h.bel hb, Nat.le_trans h.siz hb.size⟩
theorem CpSt.drewN (h : CpSt w0 w g n cap enc t W j0) (q : Nat) : CpSt w0 w g n cap enc t (W.drewN q) j0 := h.below (eN (Below.refl _ _) q)
theorem CpSt.drew (h : CpSt w0 w g n cap enc t W j0) : CpSt w0 w g n cap enc t W.drew j0 := h.below (eD (Below.refl _ _))
theorem CpSt.weak (h : CpSt w0 w g n cap enc t W j0) {j1 : Nat} (hj : j0 ≤ j1) : CpSt w0 w g n cap enc t W j1 := by
  obtain ⟨cur, h1, h2, h3, h4⟩ := h.cells
  exact ⟨h.off, ⟨cur, h1, h2, fun j a b => h3 j (by omega) b, h4⟩, h.bel, h.siz⟩
theorem CpSt.cell (h : CpSt w0 w g n cap enc t W j0) {j : Nat} (h1 : j0 ≤ j) (h2 : j < n) : W.cell? ⟨g, j, none⟩ = some (enc j) := by
  obtain ⟨cur, a, _, c, _⟩ := h.cells
  rw [bC a j]; exact c j h1 h2
theorem CpSt.any (h : CpSt w0 w g n cap enc t W j0) {j : Nat} (h2 : j < n) : ∃ A l c, W.cell? ⟨g, j, none⟩ = some (.slice A l c) := by
  obtain ⟨cur, a, _, _, c⟩ := h.cells
  rw [bC a j]; exact c j h2
theorem CpSt.frozen (h : CpSt w0 w g n cap enc t W j0) (j : Nat) : W.frozen? ⟨g, j, none⟩ = false := by
  obtain ⟨cur, a, _, _⟩ := h.cells
  exact bF a j
theorem CpSt.set (h : CpSt w0 w g n cap enc t W j0) (hg : w0.heap.size ≤ g) {kk j1 : Nat} (h1 : j0 ≤ j1) (h2 : kk < j1) (A : Option Addr) (l c : Nat) : CpSt w0 w g n cap enc t (W.setCell ⟨g, kk, none⟩ (.slice A l c)) j1 := by
  obtain ⟨cur, a, b, d, d2⟩ := h.cells
  refine ⟨fun k hk hne => (Below.heap_setCell _ _ _ k (fun e => hne e)).trans (h.off k hk hne), ⟨_, blk_put a kk _ rfl, by rw [Array.size_setIfInBounds]; exact b, fun j x y => ?_, fun j y => ?_⟩, eS h.bel hg, ?_⟩
  · rw [Array.getElem?_setIfInBounds_ne (by omega)]; exact d j (by omega) y
  · by_cases e : kk = j
    · subst e
      obtain ⟨A', l', c', e'⟩ := d2 kk y
      have hlt := (Array.getElem?_eq_some_iff.1 e').1
      exact ⟨A, l, c, by rw [Array.getElem?_setIfInBounds_self_of_lt hlt]⟩
    · rw [Array.getElem?_setIfInBounds_ne e]; exact d2 j y
  · have := h.siz
    simpa [World.setCell] using this
end
theorem cp_setCells {w0 : World} {b : Nat} (hb : w0.heap.size ≤ b) : ∀ (vs : List Value) (o : Nat) (w : World), Below w0.heap.size w0 w → Below w0.heap.size w0 (w.setCells b o vs)
  | [], _, _, h => h
  | v :: vs, o, w, h => cp_setCells hb vs (o + 1) _ (eS h hb)
/-- A call of a function value that stands in a variable, in a region that draws. -/
theorem goesV_ {P : Program} {ops : Array Oper} {Q : Exit → Act → World → Prop} {oi : Oper} {N : Option Tmp} {a : Act} {w : World} {K : Act → World → Prop} {f : FuncId} {fn : Func} {tf : Operand} {os : Array Operand} {ts : Array TypeId} (hf : P.funcs[f]? = some fn) (hname : (fn.name == "runtime.NumGoroutine") = false) (hb : fn.body.isSome = true) (args : Array Value)
    (hw : Region.wanted oi (yielded ops a.tmps) = true) (hN : oi.dst = N) (hop : oi.op = .call { callee := .value tf, args := os, argTypes := ts }) (hfv : a.eval tf = .func (.func f) #[] #[]) (hargs : os.map a.eval = args)
    (h : Calls P f args w fun e w' => ∃ v, e = .returned v ∧ K (a.put N v) w') : if Region.wanted oi (yielded ops a.tmps) = true then Oper.wp P oi a w K Q else K (a.put N undef) w := by
  refine call_ f args hw hN ?_ h
  have he := enters_ hf hname hb args w
  unfold execOp
  simp [hop, resolve, Deferred.ofValue, invoke, hfv, hargs, he]
theorem cp_one (cs : List Value) (i : Nat) (v : Value) (h : (cs.drop (i * 1)).take 1 = [v]) : cs[i]? = some v := by
  rw [Nat.mul_one] at h
  have := congrArg (fun l => l[0]?) h
  simpa [List.getElem?_take, List.getElem?_drop] using this
open Go.Proofs Kd in
theorem compact_form (P0_ : Nat → Prop) (u : Value) (xs : List (List Int)) (w0 w : World) (hB : Below w0.heap.size w0 w)
    (ho : Kd.S (Kd.slice 3 (Kd.int .i64)) 22 w w0.heap.size P0_ u xs) (hpos : 0 < xs.length) :
    ∃ (g cap : Nat) (Af : Nat → Option Addr) (cf : Nat → Nat), u = .slice (some ⟨g, 0, none⟩) xs.length cap ∧ w0.heap.size ≤ g ∧ xs.length ≤ cap ∧
      CpSt w0 w g xs.length cap (fun j => .slice (Af j) (xs.getD j []).length (cf j)) 22 w 0 ∧
      (∀ W, (∀ k, k < w.heap.size → k ≠ g → W.heap[k]? = w.heap[k]?) → ∀ j, j < xs.length → Kd.C (Kd.int .i64) W (Af j) (xs.getD j []).length (xs.getD j []) ∧ (xs.getD j []).length ≤ cf j) := by
  obtain ⟨f, h0, inner, hown, hr⟩ := ho
  rw [List.length_zipIdx] at hown
  obtain ⟨hil, hown⟩ := hown
  have hil1 : inner.length = xs.length := by rw [hil]; exact Nat.mul_one _
  rcases hown with ⟨_, hz⟩ | ⟨g, cap, cur, rfl, hg, hheap, hn, hcap, hszz, htake⟩
  · omega
  have hszz1 : cur.size = cap := by rw [hszz]; exact Nat.mul_one _
  have hR : ∀ j, j < xs.length → ∃ (A : Option Addr) (c : Nat), inner[j]? = some (.slice A (xs.getD j []).length c) ∧ (Kd.int .i64).R 3 w w0.heap.size (fun k => (P0_ k ∧ some k ≠ (Value.slice (some ⟨g, 0, none⟩) xs.length cap).ownBlock) ∧ f k = j) (.slice A (xs.getD j []).length c) (xs.getD j []) := by
    intro j hj
    have hxj : xs[j]? = some (xs.getD j []) := by rw [List.getD_eq_getElem?_getD, List.getElem?_eq_getElem hj]; rfl
    obtain ⟨v, hv, h2⟩ := hr.2 j (xs.getD j [], j) (Kd.zip_at hxj)
    have hvi : inner[j]? = some v := cp_one inner j v hv
    obtain ⟨A, c, e⟩ := Kd.R_slice h2
    refine ⟨A, c, by rw [hvi, e], ?_⟩
    have h3 := h2
    rw [e] at h3
    exact h3
  obtain ⟨q, hq⟩ : ∃ q : Nat → Option Addr × Nat, ∀ j, j < xs.length → inner[j]? = some (.slice (q j).1 (xs.getD j []).length (q j).2) ∧ (Kd.int .i64).R 3 w w0.heap.size (fun k => (P0_ k ∧ some k ≠ (Value.slice (some ⟨g, 0, none⟩) xs.length cap).ownBlock) ∧ f k = j) (.slice (q j).1 (xs.getD j []).length (q j).2) (xs.getD j []) :=
    ⟨fun j => if h : j < xs.length then (Classical.choose (hR j h), Classical.choose (Classical.choose_spec (hR j h))) else (none, 0), fun j hj => by simp only [dif_pos hj]; exact Classical.choose_spec (Classical.choose_spec (hR j hj))⟩
  have hcur : ∀ j, j < xs.length → cur[j]? = some (.slice (q j).1 (xs.getD j []).length (q j).2) := by
    intro j hj
    have h2 := (hq j hj).1
    rw [← htake, List.getElem?_take, if_pos (by rw [show (tag f (slice 3 (Kd.int .i64))).sz = 1 from rfl]; omega), Array.getElem?_toList] at h2
    exact h2
  refine ⟨g, cap, fun j => (q j).1, fun j => (q j).2, rfl, hg, hn, ⟨fun _ _ _ => rfl, ⟨cur, hheap, hszz1, fun j _ hj => hcur j hj, fun j hj => ⟨_, _, _, hcur j hj⟩⟩, hB, Nat.le_refl _⟩, fun W hW j hj => ?_⟩
  have h1 := Kd.R_step (Kd.R_bound (hq j hj).2) (fun k hok hlt => hW k hlt (fun e => hok.1.1.2 (by rw [e]; rfl)))
  have h2 := Kd.R_reads' h1
  exact ⟨h2.2.2, h2.2.1⟩
theorem compactS (P0_ : Nat → Prop) (u : Value) (xs : List (List Int)) (w0 w : World) (hB : Below w0.heap.size w0 w)
    (ho : Kd.S (Kd.slice 3 (Kd.int .i64)) 22 w w0.heap.size P0_ u xs) (hsz : xs.length ≤ 1048576) (K : Nat)
    (heq : ∀ x ∈ xs, ∀ y ∈ xs, slices_Equal_int_int.f K x y = some (decide (x = y))) :
    Calls Try.prog 110 #[u, .func (.func 111) #[] #[]] w fun e w' => ∃ A c, e = .returned (.slice A (chg xs xs.length) c) ∧ Below w0.heap.size w0 w' := by
  rcases Nat.eq_zero_or_pos xs.length with hz | hpos
  · obtain rfl : xs = [] := List.eq_nil_of_length_eq_zero hz
    obtain ⟨A, c, rfl⟩ := Kd.S_slice ho
    have HB := aM hB
    clear hB ho heq
    go_enter Try.func110, Try.ntmps110
    go_wp2
    go_ret
    exact ⟨A, c, rfl, HB.out⟩
  obtain ⟨g, cap, Af, cf, rfl, hg, hn, hst, hrd⟩ := compact_form P0_ u xs w0 w hB ho hpos
  have hcall : ∀ i j, i < xs.length → j < xs.length → ∀ W, CpSt w0 w g xs.length cap (fun j => .slice (Af j) (xs.getD j []).length (cf j)) 22 W xs.length → Calls Try.prog 111 #[.slice (Af i) (xs.getD i []).length (cf i), .slice (Af j) (xs.getD j []).length (cf j)] W fun e w' => e = .returned (.bool (decide (xs.getD i [] = xs.getD j []))) ∧ ∃ q, w' = W.drewN q := by
    intro i j hi hj W hW
    have hm : ∀ q, q < xs.length → xs.getD q [] ∈ xs := fun q hq => by rw [List.getD_eq_getElem?_getD, List.getElem?_eq_getElem hq]; exact List.getElem_mem hq
    have h1 := hrd W hW.off i hi; have h2 := hrd W hW.off j hj
    refine (slices_Equal_int_int.calls K _ _ (xs.getD i []) _ _ (xs.getD j []) _ W h1.1 h1.2 h2.1 h2.2 (heq _ (hm i hi) _ (hm j hj))).mono ?_
    rintro e w' ⟨rfl, n, rfl⟩
    exact ⟨rfl, n, rfl⟩
  have HCALLS := aM hcall
  have HST := aM hst
  have HG := aM hg
  have HN := aM hn
  clear hB ho heq hcall hst hg hrd
  by_cases h2 : xs.length < 2
  · have d2 : decide ((xs.length : Int) < 2) = true := decide_eq_true (by omega)
    have e1 : xs.length = 1 := by omega
    have HE := aM (show chg xs xs.length = xs.length by rw [e1]; rfl)
    go_enter Try.func110, Try.ntmps110
    go_wp2
    go_ret
    exact ⟨some ⟨g, 0, none⟩, cap, by rw [HE.out]; rfl, HST.out.bel⟩
  · have d2 : decide ((xs.length : Int) < 2) = false := decide_eq_false (by omega)
    have H2 := aM h2
    clear h2
    go_enter Try.func110, Try.ntmps110
    go_wp2
    go_loopw [5] (fun v5 w' => ∃ k : Nat, v5 = .int .i64 (k : Int) ∧ Aside0 (1 ≤ k ∧ k ≤ xs.length ∧ chg xs k = k) ∧ Aside0 (CpSt w0 w g xs.length cap (fun j => .slice (Af j) (xs.getD j []).length (cf j)) 22 w' 0)) (fun v5 _ => xs.length - (intOf v5).toNat)
    case atStart => exact ⟨1, rfl, ⟨Nat.le_refl _, by omega, rfl⟩, HST⟩
    case round =>
      clear HST
      obtain ⟨k, rfl, HJ, HST⟩ := hrel
      by_cases ck : k < xs.length
      · have d0 : decide ((k : Int) < (xs.length : Int)) = true := decide_eq_true (by omega)
        have hk1 : 1 ≤ k := HJ.out.1
        have hw1 : wrap64 ((k : Int) - 1) = ((k - 1 : Nat) : Int) := by unfold wrap64; omega
        have HCK := aM ck
        obtain ⟨Ax, lx, cx, HEX⟩ : ∃ A l c, Aside0 ((Value.slice (Af k) (xs.getD k []).length (cf k)) = .slice A l c) := ⟨_, _, _, ⟨rfl⟩⟩
        obtain ⟨Ay, ly, cy, HEY⟩ : ∃ A l c, Aside0 ((Value.slice (Af (k - 1)) (xs.getD (k - 1) []).length (cf (k - 1))) = .slice A l c) := ⟨_, _, _, ⟨rfl⟩⟩
        have HC := aM (fun W hW => HCALLS.out k (k - 1) HCK.out (by omega) W hW)
        rw [HEX.out, HEY.out] at HC
        have HX := aM ((HST.out.cell (Nat.zero_le _) HCK.out).trans (congrArg some HEX.out))
        have HY := aM ((HST.out.cell (j := k - 1) (Nat.zero_le _) (by omega)).trans (congrArg some HEY.out))
        have HXd := aM ((HST.out.drew.cell (Nat.zero_le _) HCK.out).trans (congrArg some HEX.out))
        have HYd := aM ((HST.out.drew.cell (j := k - 1) (Nat.zero_le _) (by omega)).trans (congrArg some HEY.out))
        have q0 : (0 : Int) ≤ (k : Int) := by omega
        have q1 : (0 : Int) ≤ ((k - 1 : Nat) : Int) := by omega
        have q2 : ((k - 1 : Nat) : Int) < (xs.length : Int) := by omega
        have q3 : (k : Int) < (xs.length : Int) := by omega
        by_cases hb : xs.getD k [] = xs.getD (k - 1) []
        · have HCALL := aM (fun W (hW : CpSt w0 w g xs.length cap (fun j => .slice (Af j) (xs.getD j []).length (cf j)) 22 W 0) => HC.out W (hW.weak (Nat.zero_le _)))
          rw [decide_eq_true hb] at HCALL
          have HBB := aM hb
          clear hb HC
          go_wp2
          have n0_ := aM HST.out.drew
          have HW := HST
          clear HST HX HY
          have HST := n0_
          have HX := HXd
          have HY := HYd
          clear n0_ HXd HYd
          refine start_ (n := 11) (S := fun w' => w'.cell? ⟨g, k, none⟩ = some (.slice Ax lx cx) ∧ w'.cell? ⟨g, k - 1, none⟩ = some (.slice Ay ly cy)) (ds := []) (bm 11 0) (by kernel_rfl) rfl rfl ⟨HX.out, HY.out⟩ (fun hHeld => ?_)
          refine yp 0 18 (bm 11 1) ?_
          refine yp 1 19 (bm 11 3) ?_
          refine yp 2 20 (bm 11 7) ?_
          refine yp 3 21 (bm 11 15) ?_
          refine yp 5 23 (bm 11 47) ?_
          refine yp 6 24 (bm 11 111) ?_
          refine yp 7 25 (bm 11 239) ?_
          (try rw [hw1])
          refine yp 8 26 (bm 11 495) ?_
          refine yt2 4 22 (bm 11 511) hHeld ?_
          refine yt2 9 27 (bm 11 1023) hHeld ?_
          refine yo 10 28 (bm 11 2047) (fun K hK => ?_)
          refine goesV_ Try.func111 (by kernel_rfl) rfl #[.slice Ax lx cx, .slice Ay ly cy] (by rfl) rfl rfl (by rfl) (by simp only [List.map_toArray, List.map_cons, List.map_nil]; rfl) ?_
          with_reducible refine (HCALL.out _ ?side1).mono ?_
          (case side1 => exact HST.out)
          rintro e w4 ⟨rfl, nd, rfl⟩
          refine ⟨_, rfl, ?_⟩
          replace HST := aM (CpSt.drewN HST.out nd)
          refine hK.out _ _ ⟨HX.out, HY.out⟩ (fun hHeld => ?_)
          clear hK K
          refine norm_ (a' := ?_) ?_ ?_
          rotate_left
          · show Act.put _ (some 28) _ = _
            simp only [Act.put, sA, sZ, sU, i64_w, i32_w]
            rfl
          refine done_ (by kernel_rfl) ?_
          go_wp2
          have hk01 : chg xs (k + 1) = k := by
            obtain ⟨j, rfl⟩ : ∃ j, k = j + 1 := ⟨k - 1, by omega⟩
            have h1 := HJ.out.2.2
            have h2 := HBB.out
            unfold chg
            rw [Nat.add_sub_cancel] at h2
            rw [if_pos h2, h1]
          have HK0 := aM hk01
          have hsub : ((xs.length : Int) - (k : Int)) = ((xs.length - k : Nat) : Int) := by omega
          clear hk01 HCALL HEX HEY HBB
          replace HST := aM ((HW.out.drewN (1 + nd)).weak (j1 := k) (Nat.zero_le _))
          clear HW
          go_loopw [5, 7] (fun v5 v7 w' => ∃ k2 : Nat, v5 = .int .i64 ((chg xs (k + k2) : Nat) : Int) ∧ v7 = .int .i64 (k2 : Int) ∧ Aside0 (1 ≤ k2 ∧ k + k2 ≤ xs.length ∧ chg xs (k + k2) < k + k2) ∧ Aside0 (CpSt w0 w g xs.length cap (fun j => .slice (Af j) (xs.getD j []).length (cf j)) 22 w' (k + k2 - 1))) (fun _ v7 _ => xs.length - k - (intOf v7).toNat)
          case atStart => exact ⟨1, by rw [HK0.out], rfl, ⟨Nat.le_refl _, by omega, by rw [HK0.out]; omega⟩, by simpa using HST⟩
          case round =>
            clear HST
            obtain ⟨k2, rfl, rfl, HJ2, HST⟩ := hrel
            have hlen2 : 1 ≤ k2 := HJ2.out.1
            obtain ⟨kk, HKK⟩ : ∃ kk : Nat, Aside0 (chg xs (k + k2) = kk) := ⟨_, ⟨rfl⟩⟩
            rw [HKK.out]
            by_cases ck2 : k + k2 < xs.length
            · have e0 : decide ((k2 : Int) < ((xs.length - k : Nat) : Int)) = true := decide_eq_true (by omega)
              have e0' : decide (k2 < xs.length - k) = true := decide_eq_true (by omega)
              have hw1 : wrap64 ((k2 : Int) - 1) = ((k2 - 1 : Nat) : Int) := by unfold wrap64; omega
              have HCK2 := aM ck2
              have hkkl : kk < k + k2 := by have := HJ2.out.2.2; rw [HKK.out] at this; exact this
              obtain ⟨Ax, lx, cx, HEX⟩ : ∃ A l c, Aside0 ((Value.slice (Af (k + k2)) (xs.getD (k + k2) []).length (cf (k + k2))) = .slice A l c) := ⟨_, _, _, ⟨rfl⟩⟩
              obtain ⟨Ay, ly, cy, HEY⟩ : ∃ A l c, Aside0 ((Value.slice (Af (k + k2 - 1)) (xs.getD (k + k2 - 1) []).length (cf (k + k2 - 1))) = .slice A l c) := ⟨_, _, _, ⟨rfl⟩⟩
              have HC := aM (fun W hW => HCALLS.out (k + k2) (k + k2 - 1) HCK2.out (by omega) W hW)
              rw [HEX.out, HEY.out] at HC
              have HXd := aM ((HST.out.drew.cell (j := k + k2) (by omega) HCK2.out).trans (congrArg some HEX.out))
              have HYd := aM ((HST.out.drew.cell (j := k + k2 - 1) (by omega) (by omega)).trans (congrArg some HEY.out))
              rw [show k + k2 - 1 = k + (k2 - 1) by omega] at HYd
              have q4 : (0 : Int) ≤ (k2 : Int) := by omega
              have q5 : (0 : Int) ≤ ((k2 - 1 : Nat) : Int) := by omega
              have q6 : ((k2 - 1 : Nat) : Int) < ((xs.length - k : Nat) : Int) := by omega
              have q7 : (k2 : Int) < ((xs.length - k : Nat) : Int) := by omega
              have q8 : (kk : Int) < (xs.length : Int) := by omega
              have q9 : (0 : Int) ≤ (kk : Int) := by omega
              by_cases hb : xs.getD (k + k2) [] = xs.getD (k + k2 - 1) []
              · have HCALL := aM (fun W (hW : CpSt w0 w g xs.length cap (fun j => .slice (Af j) (xs.getD j []).length (cf j)) 22 W (k + k2 - 1)) => HC.out W (hW.weak (by omega)))
                rw [decide_eq_true hb] at HCALL
                have HBB := aM hb
                clear hb HC
                go_wp2
                have n0_ := aM HST.out.drew
                have HW := HST
                clear HST
                have HST := n0_
                have HX := HXd
                have HY := HYd
                clear n0_ HXd HYd
                refine start_ (n := 12) (S := fun w' => w'.cell? ⟨g, k + k2, none⟩ = some (.slice Ax lx cx) ∧ w'.cell? ⟨g, k + (k2 - 1), none⟩ = some (.slice Ay ly cy)) (ds := []) (bm 12 0) (by kernel_rfl) rfl rfl ⟨HX.out, HY.out⟩ (fun hHeld => ?_)
                refine yp 0 38 (bm 12 1) ?_
                refine yp 1 39 (bm 12 3) ?_
                refine yp 2 40 (bm 12 7) ?_
                refine yp 3 41 (bm 12 15) ?_
                refine yp 5 43 (bm 12 47) ?_
                refine yp 6 44 (bm 12 111) ?_
                refine yp 7 45 (bm 12 239) ?_
                (try rw [hw1])
                refine yp 8 46 (bm 12 495) ?_
                refine yt2 4 42 (bm 12 511) hHeld ?_
                refine yt2 9 47 (bm 12 1023) hHeld ?_
                refine yo 10 48 (bm 12 2047) (fun K hK => ?_)
                refine goesV_ Try.func111 (by kernel_rfl) rfl #[.slice Ax lx cx, .slice Ay ly cy] (by rfl) rfl rfl (by rfl) (by simp only [List.map_toArray, List.map_cons, List.map_nil]; rfl) ?_
                with_reducible refine (HCALL.out _ ?side1).mono ?_
                (case side1 => exact HST.out)
                rintro e w4 ⟨rfl, nd, rfl⟩
                refine ⟨_, rfl, ?_⟩
                replace HST := aM (CpSt.drewN HST.out nd)
                refine hK.out _ _ ⟨HX.out, HY.out⟩ (fun hHeld => ?_)
                clear hK K
                refine norm_ (a' := ?_) ?_ ?_
                rotate_left
                · show Act.put _ (some 48) _ = _
                  simp only [Act.put, sA, sZ, sU, i64_w, i32_w]
                  rfl
                refine yp 11 49 (bm 12 4095) ?_
                refine done_ (by kernel_rfl) ?_
                go_wp2
                have hnx : chg xs (k + (k2 + 1)) = kk := by
                  obtain ⟨j, hj⟩ : ∃ j, k + k2 = j + 1 := ⟨k + k2 - 1, by omega⟩
                  have h1 := HKK.out
                  have h2 := HBB.out
                  rw [show k + (k2 + 1) = j + 2 by omega]
                  rw [hj] at h1 h2
                  unfold chg
                  rw [Nat.add_sub_cancel] at h2
                  rw [if_pos h2, h1, Nat.add_zero]
                go_roundw
                case rel => exact ⟨k2 + 1, by rw [hnx], by go_num, ⟨by omega, by have := HCK2.out; omega, by rw [hnx]; omega⟩, ⟨(HW.out.drewN _).weak (by omega)⟩⟩
                case measure => have := HCK2.out; simp [intOf]; omega
              · have HCALL := aM (fun W (hW : CpSt w0 w g xs.length cap (fun j => .slice (Af j) (xs.getD j []).length (cf j)) 22 W (k + k2 - 1)) => HC.out W (hW.weak (by omega)))
                rw [decide_eq_false hb] at HCALL
                have HBB := aM hb
                clear hb HC
                go_wp2
                have n0_ := aM HST.out.drew
                have HW := HST
                clear HST
                have HST := n0_
                have HX := HXd
                have HY := HYd
                clear n0_ HXd HYd
                refine start_ (n := 12) (S := fun w' => w'.cell? ⟨g, k + k2, none⟩ = some (.slice Ax lx cx) ∧ w'.cell? ⟨g, k + (k2 - 1), none⟩ = some (.slice Ay ly cy)) (ds := []) (bm 12 0) (by kernel_rfl) rfl rfl ⟨HX.out, HY.out⟩ (fun hHeld => ?_)
                refine yp 0 38 (bm 12 1) ?_
                refine yp 1 39 (bm 12 3) ?_
                refine yp 2 40 (bm 12 7) ?_
                refine yp 3 41 (bm 12 15) ?_
                refine yp 5 43 (bm 12 47) ?_
                refine yp 6 44 (bm 12 111) ?_
                refine yp 7 45 (bm 12 239) ?_
                (try rw [hw1])
                refine yp 8 46 (bm 12 495) ?_
                refine yt2 4 42 (bm 12 511) hHeld ?_
                refine yt2 9 47 (bm 12 1023) hHeld ?_
                refine yo 10 48 (bm 12 2047) (fun K hK => ?_)
                refine goesV_ Try.func111 (by kernel_rfl) rfl #[.slice Ax lx cx, .slice Ay ly cy] (by rfl) rfl rfl (by rfl) (by simp only [List.map_toArray, List.map_cons, List.map_nil]; rfl) ?_
                with_reducible refine (HCALL.out _ ?side1).mono ?_
                (case side1 => exact HST.out)
                rintro e w4 ⟨rfl, nd, rfl⟩
                refine ⟨_, rfl, ?_⟩
                replace HST := aM (CpSt.drewN HST.out nd)
                refine hK.out _ _ ⟨HX.out, HY.out⟩ (fun hHeld => ?_)
                clear hK K
                refine norm_ (a' := ?_) ?_ ?_
                rotate_left
                · show Act.put _ (some 48) _ = _
                  simp only [Act.put, sA, sZ, sU, i64_w, i32_w]
                  rfl
                refine yp 11 49 (bm 12 4095) ?_
                refine done_ (by kernel_rfl) ?_
                have hXX := ((HW.out.drewN (1 + nd)).cell (j := k + k2) (by omega) HCK2.out).trans (congrArg some HEX.out)
                obtain ⟨Ao, lo, co, hOO⟩ := (HW.out.drewN (1 + nd)).any (j := kk) (by have := HN.out; omega)
                have hFF := (HW.out.drewN (1 + nd)).frozen kk
                go_wp2
                have hnx : chg xs (k + (k2 + 1)) = kk + 1 := by
                  obtain ⟨j, hj⟩ : ∃ j, k + k2 = j + 1 := ⟨k + k2 - 1, by omega⟩
                  have h1 := HKK.out
                  have h2 := HBB.out
                  rw [show k + (k2 + 1) = j + 2 by omega]
                  rw [hj] at h1 h2
                  unfold chg
                  rw [Nat.add_sub_cancel] at h2
                  rw [if_neg h2, h1]
                go_roundw
                case rel => exact ⟨k2 + 1, by rw [hnx]; go_num, by go_num, ⟨by omega, by have := HCK2.out; omega, by rw [hnx]; omega⟩, ⟨(HW.out.drewN (1 + nd)).set HG.out (by omega) (by omega) _ _ _⟩⟩
                case measure => have := HCK2.out; simp [intOf]; omega
            · have hend : k + k2 = xs.length := by have := HJ2.out.2.1; omega
              have e0 : decide ((k2 : Int) < ((xs.length - k : Nat) : Int)) = false := decide_eq_false (by omega)
              have e0' : decide (k2 < xs.length - k) = false := decide_eq_false (by omega)
              have hkl : kk ≤ xs.length := by have := HJ2.out.2.2; rw [HKK.out] at this; omega
              have hkc : ¬ cap = kk := by have := HJ2.out.2.2; have := HN.out; rw [HKK.out] at *; omega
              have hkp : kk < xs.length := by have := HJ2.out.2.2; rw [HKK.out] at this; omega
              rw [hend] at HKK
              have HKP := aM hkp
              have hcl : ∀ ty, (Builtin.clear_ #[29] ty #[.slice (some ⟨g, kk, none⟩) (xs.length - kk) (cap - kk)]).run Try.prog wr = .ok (.tuple #[]) (wr.setCells g kk (List.replicate (xs.length - kk) (.slice none 0 0))) :=
                fun ty => Lib.run_clear_slice wr _ 22 ty _ Try.underlying29 Try.zeroValue22 rfl rfl g kk _ _ (by omega) (fun j hj => by obtain ⟨_, _, _, h⟩ := HST.out.any (j := kk + j) (by omega); rw [h]; rfl) (fun j hj => HST.out.frozen _)
              clear hkp
              go_wp2
              go_ret
              exact ⟨some ⟨g, 0, none⟩, cap, by rw [HKK.out]; rfl, cp_setCells HG.out _ _ _ HST.out.bel⟩
        · have HCALL := aM (fun W (hW : CpSt w0 w g xs.length cap (fun j => .slice (Af j) (xs.getD j []).length (cf j)) 22 W 0) => HC.out W (hW.weak (Nat.zero_le _)))
          rw [decide_eq_false hb] at HCALL
          have HBB := aM hb
          clear hb HC
          go_wp2
          have n0_ := aM HST.out.drew
          have HW := HST
          clear HST HX HY
          have HST := n0_
          have HX := HXd
          have HY := HYd
          clear n0_ HXd HYd
          refine start_ (n := 11) (S := fun w' => w'.cell? ⟨g, k, none⟩ = some (.slice Ax lx cx) ∧ w'.cell? ⟨g, k - 1, none⟩ = some (.slice Ay ly cy)) (ds := []) (bm 11 0) (by kernel_rfl) rfl rfl ⟨HX.out, HY.out⟩ (fun hHeld => ?_)
          refine yp 0 18 (bm 11 1) ?_
          refine yp 1 19 (bm 11 3) ?_
          refine yp 2 20 (bm 11 7) ?_
          refine yp 3 21 (bm 11 15) ?_
          refine yp 5 23 (bm 11 47) ?_
          refine yp 6 24 (bm 11 111) ?_
          refine yp 7 25 (bm 11 239) ?_
          (try rw [hw1])
          refine yp 8 26 (bm 11 495) ?_
          refine yt2 4 22 (bm 11 511) hHeld ?_
          refine yt2 9 27 (bm 11 1023) hHeld ?_
          refine yo 10 28 (bm 11 2047) (fun K hK => ?_)
          refine goesV_ Try.func111 (by kernel_rfl) rfl #[.slice Ax lx cx, .slice Ay ly cy] (by rfl) rfl rfl (by rfl) (by simp only [List.map_toArray, List.map_cons, List.map_nil]; rfl) ?_
          with_reducible refine (HCALL.out _ ?side1).mono ?_
          (case side1 => exact HST.out)
          rintro e w4 ⟨rfl, nd, rfl⟩
          refine ⟨_, rfl, ?_⟩
          replace HST := aM (CpSt.drewN HST.out nd)
          refine hK.out _ _ ⟨HX.out, HY.out⟩ (fun hHeld => ?_)
          clear hK K
          refine norm_ (a' := ?_) ?_ ?_
          rotate_left
          · show Act.put _ (some 28) _ = _
            simp only [Act.put, sA, sZ, sU, i64_w, i32_w]
            rfl
          refine done_ (by kernel_rfl) ?_
          go_wp2
          have hnx : chg xs (k + 1) = k + 1 := by
            obtain ⟨j, rfl⟩ : ∃ j, k = j + 1 := ⟨k - 1, by omega⟩
            have h1 := HJ.out.2.2
            have h2 := HBB.out
            unfold chg
            rw [Nat.add_sub_cancel] at h2
            rw [if_neg h2, h1]
          go_roundw
          case rel => exact ⟨k + 1, by go_num, ⟨by omega, by have := HCK.out; omega, hnx⟩, ⟨HW.out.drewN _⟩⟩
          case measure => have := HCK.out; simp [intOf]; omega
      · have d0 : decide ((k : Int) < (xs.length : Int)) = false := decide_eq_false (by omega)
        have e1 : k = xs.length := by have := HJ.out.2.1; omega
        have HE := aM (show chg xs xs.length = xs.length by have := HJ.out.2.2; rw [e1] at this; exact this)
        have d1 : decide (k < xs.length) = false := decide_eq_false ck
        clear ck e1
        go_wp2
        go_ret
        exact ⟨some ⟨g, 0, none⟩, cap, by rw [HE.out]; rfl, HST.out.bel⟩
theorem traces_calls (K : Nat) (A0 : Option Addr) (c0 : Nat) (l0 : List (List Int)) (A1 : Option Addr) (c1 : Nat) (l1 : List Int) (rows : List (List Int)) (hrl : rows.length = l0.length) (hsz : l0.length ≤ 1048576)
    (hat : ∀ i : Nat, i < l0.length → impl_at.f K (rd_L1 l0 (i : Int)) l1 = some (rows.getD i []))
    (hcmp : ∀ x ∈ rows, ∀ y ∈ rows, slices_Compare_int_int.f K x y = some (cmpT x y)) (heq : ∀ x ∈ rows, ∀ y ∈ rows, slices_Equal_int_int.f K x y = some (decide (x = y)))
    (w : World) (hr0 : Kd.C (Kd.slice 3 (Kd.int .i64)) w A0 l0.length l0) (hr1 : Kd.C (Kd.int .i64) w A1 l1.length l1) (hc1 : l1.length ≤ c1) :
    Calls Try.prog 88 #[.slice A0 l0.length c0, .slice A1 l1.length c1] w fun e w' => ∃ A c, e = .returned (.slice A (chg (sortL cmpT rows) rows.length) c) ∧ Below w.heap.size w w' := by
  have HB := aM (Below.refl w.heap.size w)
  have HR0 := aM hr0
  have HR1 := aM hr1
  have HC1 := aM hc1
  have HAT := aM hat
  have HRL := aM hrl
  have HSZ := aM hsz
  have HTK := aM (fun i (hi : i < l0.length) => show rows.take (i + 1) = rows.take i ++ [rows.getD i []] by
    rw [List.take_succ_eq_append_getElem (by omega), List.getD_eq_getElem?_getD, List.getElem?_eq_getElem (by omega)]; rfl)
  have HSO := aM (fun u w5 (hB5 : Below w.heap.size w w5) (ho5 : Kd.S (Kd.slice 3 (Kd.int .i64)) 22 w5 w.heap.size (fun _ => True) u rows) =>
    sortS 107 (fun args W => enters_ Try.func107 (by kernel_rfl) rfl args W) cmpT cmpT_swo cmpT_total (fun _ => True) u _ w.heap.size w w5 hB5 rfl ho5 (by omega) (by
      intro x hx y hy W A c A' c' h1 h2 h3 h4
      refine (slices_Compare_int_int.calls K A c x A' c' y _ W h1 h2 h3 h4 (hcmp x hx y hy)).mono ?_
      rintro e w' ⟨rfl, n, rfl⟩
      exact ⟨rfl, n, rfl⟩))
  have HCO := aM (fun u w5 (hB5 : Below w.heap.size w w5) (ho5 : Kd.S (Kd.slice 3 (Kd.int .i64)) 22 w5 w.heap.size (fun _ => True) u (sortL cmpT rows)) =>
    compactS (fun _ => True) u (sortL cmpT rows) w w5 hB5 ho5 (by rw [show (sortL cmpT rows).length = rows.length from (List.mergeSort_perm _ _).length_eq]; omega) K (fun x hx y hy => heq x ((List.mergeSort_perm _ _).mem_iff.1 hx) y ((List.mergeSort_perm _ _).mem_iff.1 hy)))
  rw [show (sortL cmpT rows).length = rows.length from (List.mergeSort_perm _ _).length_eq] at HCO
  clear hr0 hr1 hc1 hat hrl hsz hcmp heq
  go_enter Try.func88, Try.ntmps88
  go_wp2_with (first | ((with_reducible refine gate_dst (N := 8) rfl ?_); refine Kd.S_lit (Kd.slice 3 (Kd.int .i64)) _ 22 ?hg (N := 8) ?hd (xs := ([] : List (List Int))) (inner := []) (ok := fun _ => True) (okp := fun _ => True) ?hr ?hp (fun _ hk => hk) trivial (Below.refl _ _) (Nat.le_refl _) (by simp) ?_; (case hd => rfl); (case hg => rfl); (case hr => first | (go_simp; done) | (go_simp; rfl)); (case hp => exact (Reps.none _ _)); intro v102 w2 ho3 hb hg_ hnew_; clear hg_ hnew_; have HO := aM (Kd.S_lower ho3 (below_size (xH HB.out))); replace HB := yS0 HB hb; clear hb ho3))
  go_loopw [5, 11] (fun v5 v11 w' => ∃ i : Nat, v11 = .int .i64 (i : Int) ∧ Aside0 (i ≤ l0.length) ∧ Aside0 (Kd.S (Kd.slice 3 (Kd.int .i64)) 22 w' w.heap.size (fun _ => True) v5 (rows.take i)) ∧ Aside0 (Below w.heap.size w w')) (fun _ v11 _ => l0.length - (intOf v11).toNat)
  case atStart => exact ⟨0, rfl, ⟨Nat.zero_le _⟩, ⟨xS HO.out⟩, ⟨(xH HB.out)⟩⟩
  case round =>
    clear HO HB
    obtain ⟨i, rfl, HJ, HO, HB⟩ := hrel
    by_cases ci : i < l0.length
    · have d0 : decide ((i : Int) < (l0.length : Int)) = true := decide_eq_true (by omega)
      have d1 : decide (i < l0.length) = true := decide_eq_true ci
      have HI := aM ci
      have hib : (i : Int) ≤ 1048576 := by have := HSZ.out; have := HI.out; omega
      have hi0 : 0 ≤ (i : Int) := by omega
      have HNX := aM (HTK.out i HI.out)
      have HA := aM (HAT.out i HI.out)
      have hlen : (rows.take i).length ≤ 1048576 := by rw [List.length_take]; have := HSZ.out; have := HRL.out; omega
      have p143 : 0 ≤ (i : Int) := by omega
      have q143 : (i : Int) < (l0.length : Int) := by omega
      obtain ⟨ad143, A143_0, c143_0, e143, hx143_0, hl143_0, hi143_0⟩ := at_L1 HR0.out (i : Int) p143 q143
      cases e143
      replace hx143_0 := yc HB hx143_0
      have HR143_0 := aM hi143_0
      have HC143_0 := aM hl143_0
      clear hi143_0 hl143_0
      obtain ⟨row, hrow⟩ : ∃ row, rows.getD i [] = row := ⟨_, rfl⟩
      rw [hrow] at HA HNX
      obtain ⟨src, hsrc⟩ : ∃ src, rd_L1 l0 (i : Int) = src := ⟨_, rfl⟩
      rw [hsrc] at HA HR143_0 HC143_0 hx143_0
      clear hrow hsrc
      rw [Int.toNat_natCast] at hx143_0
      go_wp2_with (first | (go_at_call 108; (with_reducible refine (impl_at.calls K _ _ src _ _ l1 row _ ?s1 ?s2 ?s3 ?s4 HA.out).mono ?_); (case s1 => exact (Kd.C_below HR143_0.out (xH HB.out))); (case s2 => exact HC143_0.out); (case s3 => exact (Kd.C_below HR1.out (xH HB.out))); (case s4 => exact HC1.out); rintro e w15 ⟨vr, rfl, hr, hb⟩; obtain ⟨Ah, ch, rfl⟩ := Kd.R_slice hr; have HO := aM (Kd.S_elder' (xS HO.out) (Kd.R_base hr) hb); have HH := aM (Kd.R_lower hr (below_size (xH HB.out))); have HB := yS0 HB hb) | ((with_reducible refine gate_builtin (b := .append) (xs := #[.tmp 15, .tmp 19]) rfl ?_); at_builtin; refine Kd.S_append (Kd.slice 3 (Kd.int .i64)) (w0 := w) w.heap.size rfl (.tmp 15) (.tmp 19) 29 22 (.slice none 0 0) 24 rfl Try.underlying29 info22 rfl (by decide) (by omega) u5 (rows.take i) row [.slice Ah row.length ch] (fun _ => True) (fun k_ => some k_ = (.slice Ah row.length ch : Value).ownBlock) rfl rfl ?aP (fun k_ hk_ => ((rM (ok' := fun k_ => ((fun _ => True)) k_ ∧ some k_ ≠ (u5 : Value).ownBlock) (Kd.R_apart' (HH.out) (Kd.S_typed HO.out) (by decide)) (fun k_ hk => ⟨trivial, hk.2⟩))).1 k_ hk_.symm) ?aF ?aO ?aB ?aS ?aL ?_; (case aP => exact Kd.M_row (rM (Kd.R_tight rfl (rM (ok' := fun k_ => ((fun _ => True)) k_ ∧ some k_ ≠ (u5 : Value).ownBlock) (Kd.R_apart' (HH.out) (Kd.S_typed HO.out) (by decide)) (fun k_ hk => ⟨trivial, hk.2⟩))) (fun _ h_ => h_))); (case aB => exact (xH HB.out)); (case aF => exact (fun _ _ => trivial)); (case aO => exact (zS (Kd.S_mono HO.out (fun k_ hk => ⟨trivial, fun e_ => hk.2 e_⟩)))); (case aS => exact (below_size (xH HB.out))); (case aL => omega); intro v111 w16 ho hb hg hat; replace HB := aM (hb); replace HO := aM (ho); clear HH; clear ho hb hg hat))
      go_roundw
      case rel => exact ⟨i + 1, by go_num, ⟨HI.out⟩, ⟨by rw [HNX.out]; exact HO.out⟩, HB⟩
      case measure => have := HI.out; simp [intOf]; omega
    · have d0 : decide ((i : Int) < (l0.length : Int)) = false := decide_eq_false (by omega)
      have d1 : decide (i < l0.length) = false := decide_eq_false ci
      have e : i = l0.length := by have := HJ.out; omega
      have h1 := HO.out
      rw [e, ← HRL.out, List.take_length] at h1
      clear HO
      have HO := aM h1
      clear h1 e ci
      go_wp2_with (first | (go_at_call 109; (with_reducible refine (HSO.out _ _ ?hB ?ho).mono ?_); (case hB => exact (xH HB.out)); (case ho => exact (xS HO.out)); rintro e w21 ⟨rfl, ho, hb⟩; clear HO HB; have HO := aM ho; have HB := aM hb; clear ho hb) | (go_at_call 110; (with_reducible refine (HCO.out _ _ ?hB ?ho).mono ?_); (case hB => exact (xH HB.out)); (case ho => exact (xS HO.out)); rintro e w22 ⟨A, c, rfl, hb⟩; clear HO HB; have HB := aM hb; clear hb))
      go_ret
      exact ⟨_, _, rfl, HB.out⟩
/-- the rows of a class at the places of a set -/
def trR (k : Nat) (l0 : List (List Int)) (l1 : List Int) : List (List Int) := l0.map fun h => (impl_at.f k h l1).getD []
def SHOK (k : Nat) (l0 : List (List Int)) (l1 : List Int) : Prop :=
  l0.length ≤ 1048576 ∧ (∀ h ∈ l0, (impl_at.f k h l1).isSome = true) ∧ (∀ x ∈ trR k l0 l1, ∀ y ∈ trR k l0 l1, slices_Compare_int_int.f k x y = some (cmpT x y)) ∧ (∀ x ∈ trR k l0 l1, ∀ y ∈ trR k l0 l1, slices_Equal_int_int.f k x y = some (decide (x = y)))
instance (k : Nat) (l0 : List (List Int)) (l1 : List Int) : Decidable (SHOK k l0 l1) := by unfold SHOK; infer_instance
theorem SHOK.up {k : Nat} {l0 : List (List Int)} {l1 : List Int} (c : SHOK k l0 l1) : SHOK (k + 1) l0 l1 ∧ trR (k + 1) l0 l1 = trR k l0 l1 := by
  obtain ⟨h1, h2, h3, h4⟩ := c
  have e : trR (k + 1) l0 l1 = trR k l0 l1 := by
    unfold trR
    refine List.map_congr_left fun h hh => ?_
    obtain ⟨r, hr⟩ := Option.isSome_iff_exists.1 (h2 h hh)
    rw [hr, impl_at.mono _ _ k r hr]
  refine ⟨⟨h1, fun h hh => ?_, ?_, ?_⟩, e⟩
  · obtain ⟨r, hr⟩ := Option.isSome_iff_exists.1 (h2 h hh)
    rw [impl_at.mono _ _ k r hr]; rfl
  · rw [e]; exact fun x hx y hy => slices_Compare_int_int.mono _ _ k _ (h3 x hx y hy)
  · rw [e]; exact fun x hx y hy => slices_Equal_int_int.mono _ _ k _ (h4 x hx y hy)
def impl_shatters.f (k : Nat) (l0 : List (List Int)) (l1 : List Int) : Option (Bool) := if SHOK k l0 l1 then some (((chg (sortL cmpT (trR k l0 l1)) (trR k l0 l1).length : Nat) : Int) == (shl .i64 1 (l1.length : Int))) else none
theorem impl_shatters.mono : ∀ a0 a1 k, LeO (impl_shatters.f k a0 a1) (impl_shatters.f (k + 1) a0 a1) := by
  intro l0 l1 k r h
  unfold impl_shatters.f at h ⊢
  by_cases c : SHOK k l0 l1
  · rw [if_pos c] at h
    obtain ⟨c1, c2⟩ := c.up
    rw [if_pos c1, c2]; exact h
  · rw [if_neg c] at h; cases h
def impl_shatters.T1 : Bool × List (List Nat × List Nat) := (true, [([], []), ([], []), ([0, 1], [0, 1]), ([2], [2]), ([], []), ([4], [4]), ([5], [5]), ([3, 6], [3, 6]), ([7, 2, 0, 1, 2, 3, 4, 5, 6, 7], [7])])
def impl_shatters.B1 : List Nat := [0, 0, 3, 7, 0, 16, 48, 127, 255]
theorem impl_shatters.tab1 : rtab .any (opsOf Try.f46 1) = impl_shatters.T1 := by kernel_rfl
theorem impl_shatters.bits1 : waitsOk impl_shatters.T1.2 impl_shatters.B1 = true := by kernel_rfl
theorem impl_shatters.calls (k : Nat) (A0 : Option Addr) (c0 : Nat) (l0 : List (List Int)) (A1 : Option Addr) (c1 : Nat) (l1 : List Int) (r : Bool) (w : World) (hr0 : Kd.C (Kd.slice 3 (Kd.int .i64)) w A0 l0.length l0) (hc0 : l0.length ≤ c0) (hr1 : Kd.C (Kd.int .i64) w A1 l1.length l1) (hc1 : l1.length ≤ c1) (h : impl_shatters.f k l0 l1 = some r) :
    Calls Try.prog 46 #[.slice A0 l0.length c0, .slice A1 l1.length c1] w fun e w' => e = .returned (.bool r) ∧ Below w.heap.size w w' := by
  have HR0 := aM hr0
  have HC0 := aM hc0
  clear hr0 hc0
  have HR1 := aM hr1
  have HC1 := aM hc1
  clear hr1 hc1
  have HB := aM (Below.refl w.heap.size w)
  have hok : SHOK k l0 l1 := by
    unfold impl_shatters.f at h
    by_cases c : SHOK k l0 l1
    · exact c
    · rw [if_neg c] at h; cases h
  have H : (some (((chg (sortL cmpT (trR k l0 l1)) (trR k l0 l1).length : Nat) : Int) == (shl .i64 1 (l1.length : Int)))) = some r := by
    unfold impl_shatters.f at h; rw [if_pos hok] at h; exact h
  have hrl : (trR k l0 l1).length = l0.length := by unfold trR; rw [List.length_map]
  have HTR := aM (fun W h0 h1 => traces_calls k A0 c0 l0 A1 c1 l1 (trR k l0 l1) hrl hok.1 (fun i hi => by
    have hm : rd_L1 l0 (i : Int) ∈ l0 := by unfold rd_L1; rw [Int.toNat_natCast, List.getD_eq_getElem?_getD, List.getElem?_eq_getElem hi]; exact List.getElem_mem hi
    obtain ⟨q, hq⟩ := Option.isSome_iff_exists.1 (hok.2.1 _ hm)
    have he : (trR k l0 l1).getD i [] = (impl_at.f k (rd_L1 l0 (i : Int)) l1).getD [] := by
      unfold trR rd_L1
      rw [Int.toNat_natCast, List.getD_eq_getElem?_getD, List.getElem?_map, List.getElem?_eq_getElem hi, List.getD_eq_getElem?_getD, List.getElem?_eq_getElem hi]; rfl
    rw [he, hq]; rfl) hok.2.2.1 hok.2.2.2 W h0 h1 HC1.out)
  obtain ⟨m253, hm253⟩ : ∃ m : Nat, chg (sortL cmpT (trR k l0 l1)) (trR k l0 l1).length = m := ⟨_, rfl⟩
  rw [hm253] at H HTR
  clear hok h hrl hm253
  obtain ⟨ji4, hji4⟩ := yJ ((shl .i64 1 (l1.length : Int)))
  (first | rw [hji4] at H | simp only [hji4] at H)
  have hji4_ : (IntKind.i64.wrap (1 * 2 ^ min (l1.length : Int).toNat 64)) = ji4 := hji4
  have hji4z : (l1.length : Int) ≤ 64 → (IntKind.i64.wrap (1 * 2 ^ (l1.length : Int).toNat)) = ji4 := shl_small hji4
  have hji4p : (IntKind.i64.wrap (1 * 2 ^ min l1.length 64)) = ji4 := hji4_
  have hji4q : (l1.length : Int) ≤ 64 → (IntKind.i64.wrap (1 * 2 ^ l1.length)) = ji4 := hji4z
  have hji4r : (IntKind.i64.wrap (2 ^ min l1.length 64)) = ji4 := by have h_ := hji4p; rw [Int.one_mul] at h_; exact h_
  have hji4s : (l1.length : Int) ≤ 64 → (IntKind.i64.wrap (2 ^ l1.length)) = ji4 := fun hle_ => by have h_ := hji4q hle_; rw [Int.one_mul] at h_; exact h_
  have hji4u : (IntKind.i64.wrap (2 ^ min (l1.length : Int).toNat 64)) = ji4 := by have h_ := hji4_; rw [Int.one_mul] at h_; exact h_
  have hji4v : (l1.length : Int) ≤ 64 → (IntKind.i64.wrap (2 ^ (l1.length : Int).toNat)) = ji4 := fun hle_ => by have h_ := hji4z hle_; rw [Int.one_mul] at h_; exact h_
  have hji4y : (wrap64 (1 * 2 ^ min (l1.length : Int).toNat 64)) = ji4 := (i64_w _).symm.trans hji4_
  have hji4x : (l1.length : Int) ≤ 64 → (wrap64 (1 * 2 ^ (l1.length : Int).toNat)) = ji4 := fun h_ => (i64_w _).symm.trans (hji4z h_)
  obtain rfl := Option.some.inj H
  go_enter Try.func46, Try.ntmps46
  try go_wp2
  replace HB := aM (eD HB.out)
  refine start_ (n := 9) (S := fun w' => True) (ds := []) (bm 9 0) (by kernel_rfl) rfl rfl trivial (fun hHeld => ?_); refine with_tabW impl_shatters.tab1 impl_shatters.bits1 (fun HT_ HW_ => ?_)
  generalize w.drew = w5 at HB hHeld ⊢
  refine yP 0 5 (bm 9 1) HT_ ?_
  refine yP 1 6 (bm 9 3) HT_ ?_
  refine yP 4 9 (bm 9 19) HT_ ?_
  refine yP 5 10 (bm 9 51) HT_ ?_
  refine yP 6 11 (bm 9 115) HT_ ?_
  refine yO 2 7 (bm 9 119) HT_ (fun K hK => ?_)
  refine yG Try.func88 #[.slice A0 l0.length c0, .slice A1 l1.length c1] ?_
  with_reducible refine (HTR.out _ ?side1 ?side3).mono ?_
  (case side1 => exact xC (Kd.C_below HR0.out HB.out))
  (case side3 => exact xC (Kd.C_below HR1.out HB.out))
  rintro e w6 ⟨Ah, ch, rfl, hb⟩
  refine ⟨_, rfl, ?_⟩
  have n1_ := yS0 HB hb
  clear HB
  have HB := n1_
  clear n1_ hb
  refine hK.out _ _ trivial (fun hHeld => ?_)
  clear hK K
  refine norm_ (a' := ?_) ?_ ?_
  rotate_left
  · show Act.put _ (some 7) _ = _
    simp only [Act.put, sA, sZ, sU, i64_w, i32_w]
    rfl
  refine yP 3 8 (bm 9 127) HT_ ?_
  refine yP 7 12 (bm 9 255) HT_ ?_
  refine yP 8 4 (bm 9 511) HT_ ?_
  refine done_ (done_of HT_.out (by kernel_rfl)) ?_
  try go_wp2
  go_ret
  exact ⟨by first | rfl | (simp [errW_none, errW_some] <;> rfl) | (simp only [← hji4]; first | rfl | (simp [errW_none, errW_some] <;> rfl)) | (simp [*, errW_none, errW_some] <;> rfl), by repeat (first | (with_reducible first | exact HB.out | apply eA | apply eN | apply eD) | exact HB.out | exact Below.refl _ _)⟩


end Go.Proofs.Ytihnmdnmjieffaa.PFnExactShattersSet
