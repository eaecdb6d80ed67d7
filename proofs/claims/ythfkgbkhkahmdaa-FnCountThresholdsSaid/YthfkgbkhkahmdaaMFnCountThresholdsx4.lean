-- Laid for this claim by a program of the session's own (wip/tool/myprint.py).
import Derived.Test.YthfkgbkhkahmdaaMFnCountThresholdsx0
namespace Go.Proofs.Ythfkgbkhkahmdaa.PFnCountThresholds
open Go.RowKit Go.Proofs.YthfkgbkhkahmdaaW.PrintWords Go.Proofs.YthfkgbkhkahmdaaW.PrintLast Go.Proofs.YthfkgbkhkahmdaaW.PrintMore
attribute [local go_sem] max2_int min2_int max_two min_two max_three min_three max_four min_four   -- for this text's walks alone
set_option linter.unusedVariables false
set_option linter.unusedSimpArgs false

/-! ### impl_smallWeights: function 110 -/
def wfrom (L : List (List Int)) : Nat → Int → List (List Int)
  | 0, _ => []
  | c + 1, x => L.map (fun v => x :: v) ++ wfrom L c (x + 1)
/-- All lists of n numbers in -m..m, in order. -/
def wts (m : Nat) : Nat → List (List Int)
  | 0 => [[]]
  | n + 1 => wfrom (wts m n) (2 * m + 1) (-(m : Int))
/-- The next list of weights; none behind the last one. -/
def wnext (m : Nat) : List Int → Option (List Int)
  | [] => none
  | x :: v => match wnext m v with
    | some v' => some (x :: v')
    | none => if x = (m : Int) then none else some ((x + 1) :: v.map fun _ => -(m : Int))
theorem wfrom_mem (L : List (List Int)) : ∀ c x v, v ∈ wfrom L c x ↔ ∃ d : Nat, d < c ∧ ∃ u, u ∈ L ∧ v = (x + d) :: u := by
  intro c
  induction c with
  | zero => intro x v; simp [wfrom]
  | succ c ih =>
    intro x v
    simp only [wfrom, List.mem_append, List.mem_map, ih]
    constructor
    · rintro (⟨u, hu, rfl⟩ | ⟨d, hd, u, hu, rfl⟩)
      · exact ⟨0, by omega, u, hu, by simp⟩
      · exact ⟨d + 1, by omega, u, hu, by congr 1; omega⟩
    · rintro ⟨d, hd, u, hu, rfl⟩
      cases d with
      | zero => exact .inl ⟨u, hu, by simp⟩
      | succ d => exact .inr ⟨d, by omega, u, hu, by congr 1; omega⟩
theorem wfrom_length (L : List (List Int)) : ∀ c x, (wfrom L c x).length = c * L.length := by
  intro c
  induction c with
  | zero => intro x; simp [wfrom]
  | succ c ih => intro x; simp only [wfrom, List.length_append, List.length_map, ih, Nat.succ_mul]; omega
theorem wts_len (m : Nat) : ∀ n, ∀ v ∈ wts m n, v.length = n := by
  intro n
  induction n with
  | zero => intro v hv; simp [wts] at hv; subst hv; rfl
  | succ n ih =>
    intro v hv
    obtain ⟨d, _, u, hu, rfl⟩ := (wfrom_mem _ _ _ _).1 hv
    simp [ih u hu]
theorem wts_bd (m : Nat) : ∀ n, ∀ v ∈ wts m n, ∀ x ∈ v, -(m : Int) ≤ x ∧ x ≤ m := by
  intro n
  induction n with
  | zero => intro v hv; simp [wts] at hv; subst hv; intro x hx; simp at hx
  | succ n ih =>
    intro v hv x hx
    obtain ⟨d, hd, u, hu, rfl⟩ := (wfrom_mem _ _ _ _).1 hv
    rcases List.mem_cons.1 hx with rfl | hx
    · omega
    · exact ih u hu x hx
theorem wts_length (m : Nat) : ∀ n, (wts m n).length = (2 * m + 1) ^ n := by
  intro n
  induction n with
  | zero => rfl
  | succ n ih => simp only [wts, wfrom_length, ih, Nat.pow_succ, Nat.mul_comm]
theorem wts_head (m : Nat) : ∀ n, (wts m n)[0]? = some (List.replicate n (-(m : Int))) := by
  intro n
  induction n with
  | zero => rfl
  | succ n ih => simp only [wts, wfrom]; rw [List.getElem?_append_left (by rw [List.length_map, wts_length]; exact Nat.pow_pos (by omega)), List.getElem?_map, ih]; rfl
theorem wnext_chain (m n : Nat) (L : List (List Int)) (h0 : L[0]? = some (List.replicate n (-(m : Int)))) (hl : ∀ v ∈ L, v.length = n) (hc : ∀ i v, L[i]? = some v → wnext m v = L[i + 1]?) :
    ∀ (c : Nat) (x : Int), x + c = m + 1 → ∀ i v, (wfrom L c x)[i]? = some v → wnext m v = (wfrom L c x)[i + 1]? := by
  intro c
  induction c with
  | zero => intro x _ i v h; simp [wfrom] at h
  | succ c ih =>
    intro x hx i v h
    simp only [wfrom] at h ⊢
    have hL : (L.map fun v => x :: v).length = L.length := by simp
    rcases Nat.lt_or_ge i L.length with hi | hi
    · rw [List.getElem?_append_left (by rw [hL]; exact hi), List.getElem?_map, List.getElem?_eq_getElem hi] at h
      simp only [Option.map_some, Option.some.injEq] at h
      subst h
      have hn := hc i _ (List.getElem?_eq_getElem hi)
      simp only [wnext]
      rcases Nat.lt_or_ge (i + 1) L.length with hj | hj
      · rw [List.getElem?_eq_getElem hj] at hn
        rw [hn, List.getElem?_append_left (by rw [hL]; exact hj), List.getElem?_map, List.getElem?_eq_getElem hj]
        rfl
      · rw [List.getElem?_eq_none hj] at hn
        rw [hn, List.getElem?_append_right (by rw [hL]; exact hj), hL, show i + 1 - L.length = 0 by omega]
        simp only
        cases c with
        | zero => simp [wfrom]; omega
        | succ c =>
          rw [if_neg (by omega)]
          simp only [wfrom]
          have hl0 : 0 < L.length := by omega
          rw [List.getElem?_append_left (by simp; omega), List.getElem?_map, h0]
          have := hl _ (List.getElem_mem hi)
          simp only [Option.map_some, List.map_const', this]
    · rw [List.getElem?_append_right (by rw [hL]; exact hi), hL] at h
      rw [List.getElem?_append_right (by rw [hL]; omega), hL, show i + 1 - L.length = i - L.length + 1 by omega]
      exact ih (x + 1) (by omega) _ v h
theorem wts_next (m : Nat) : ∀ n i v, (wts m n)[i]? = some v → wnext m v = (wts m n)[i + 1]? := by
  intro n
  induction n with
  | zero => intro i v h; cases i with
    | zero => simp [wts] at h; subst h; rfl
    | succ i => simp [wts] at h
  | succ n ih => exact wnext_chain m n _ (wts_head m n) (wts_len m n) ih _ _ (by omega)
/-- What the loop from the right does: the place at which it stops, all numbers behind it being m. -/
theorem wnext_some (m : Nat) : ∀ (v : List Int) (i : Nat), i < v.length → v.getD i 0 ≠ m → (∀ j, i < j → j < v.length → v.getD j 0 = m) →
    wnext m v = some (v.take i ++ (v.getD i 0 + 1) :: List.replicate (v.length - i - 1) (-(m : Int))) := by
  intro v
  induction v with
  | nil => intro i hi; simp at hi
  | cons x v ih =>
    intro i hi hn ha
    have hnone : ∀ v : List Int, (∀ j, j < v.length → v.getD j 0 = m) → wnext m v = none := by
      intro v
      induction v with
      | nil => intro _; rfl
      | cons y v ihv =>
        intro h
        simp only [wnext]
        rw [ihv (fun j hj => by simpa using h (j + 1) (by simpa using hj))]
        have := h 0 (by simp)
        simp at this
        simp [this]
    cases i with
    | zero =>
      simp only [wnext]
      rw [hnone v (fun j hj => by simpa using ha (j + 1) (by omega) (by simpa using hj))]
      simp at hn
      simp [hn, List.map_const']
    | succ i =>
      simp only [wnext]
      rw [ih i (by simpa using hi) (by simpa using hn) (fun j h1 h2 => by simpa using ha (j + 1) (by omega) (by simpa using h2))]
      simp
theorem wnext_none (m : Nat) : ∀ v : List Int, (∀ j, j < v.length → v.getD j 0 = m) → wnext m v = none := by
  intro v
  induction v with
  | nil => intro _; rfl
  | cons y v ihv =>
    intro h
    simp only [wnext]
    rw [ihv (fun j hj => by simpa using h (j + 1) (by simpa using hj))]
    have := h 0 (by simp)
    simp at this
    simp [this]
/-- The reference's way: lists made longer at their end. -/
def wlong (m : Nat) (L : List (List Int)) : List (List Int) := L.flatMap fun v => (List.range (2 * m + 1)).map fun d : Nat => v ++ [(d : Int) - (m : Int)]
theorem wlong_cons (m : Nat) (L : List (List Int)) (x : Int) : wlong m (L.map fun v => x :: v) = (wlong m L).map fun v => x :: v := by
  simp [wlong, List.flatMap_map, List.map_flatMap, Function.comp_def]
theorem wlong_from (m : Nat) (L : List (List Int)) : ∀ c x, wlong m (wfrom L c x) = wfrom (wlong m L) c x := by
  intro c
  induction c with
  | zero => intro x; rfl
  | succ c ih => intro x; simp only [wfrom]; rw [← ih, ← wlong_cons]; simp [wlong]
theorem wfrom_nil : ∀ c x, wfrom [[]] c x = (List.range c).map fun d : Nat => [x + (d : Int)] := by
  intro c
  induction c with
  | zero => intro x; rfl
  | succ c ih => intro x; simp only [wfrom]; rw [ih, List.range_succ_eq_map]; simp [Function.comp_def]; intro a _; omega
theorem wts_long (m : Nat) : ∀ n, wlong m (wts m n) = wts m (n + 1) := by
  intro n
  induction n with
  | zero => simp [wts, wfrom_nil, wlong]; intro a _; omega
  | succ n ih => simp only [wts]; rw [wlong_from]; rw [ih]; rfl

def row3 (xs : List Int) : Obj := .cells (nums .i64 xs).toArray 3 (0, 0)
theorem row3_cell {w : World} {g : Nat} {xs : List Int} (h : w.heap[g]? = some (row3 xs)) (j : Nat) (hj : j < xs.length) : w.cell? ⟨g, j, none⟩ = some (.int .i64 (xs.getD j 0)) := by
  rw [blk_cell h j]
  simp [nums, List.getD_eq_getElem?_getD, List.getElem?_eq_getElem hj]
theorem row3_set {w : World} {g : Nat} {xs : List Int} (h : w.heap[g]? = some (row3 xs)) (j : Nat) (x : Int) : (w.setCell ⟨g, j, none⟩ (.int .i64 x)).heap[g]? = some (row3 (xs.set j x)) := by
  rw [blk_set h]
  simp [row3, nums, List.map_set]
theorem row3_eq {w : World} {g : Nat} {xs ys : List Int} (h : w.heap[g]? = some (row3 xs)) (e : xs = ys) : w.heap[g]? = some (row3 ys) := e ▸ h
theorem rep_step (j n : Nat) (x : Int) (h : j < n) : (List.replicate j x ++ List.replicate (n - j) 0).set j x = List.replicate (j + 1) x ++ List.replicate (n - (j + 1)) 0 := by
  rw [show n - j = n - (j + 1) + 1 by omega, List.replicate_succ, List.set_append_right _ _ (by simp)]
  simp [List.replicate_succ', List.append_assoc]
theorem down_step (v : List Int) (d n : Nat) (x : Int) (hl : v.length = n) (h : d + 1 ≤ n) : (v.take (d + 1) ++ List.replicate (n - (d + 1)) x).set d x = v.take d ++ List.replicate (n - d) x := by
  rw [List.set_append_left _ _ (by simp; omega), show n - d = n - (d + 1) + 1 by omega, List.replicate_succ]
  rw [show (v.take (d + 1)).set d x = v.take d ++ [x] by
    rw [List.take_succ_eq_append_getElem (by omega), List.set_append_right _ _ (by simp; omega)]; simp [show d ≤ v.length by omega]]
  simp
theorem down_at (v : List Int) (d n : Nat) (x : Int) (hl : v.length = n) (h : d + 1 ≤ n) : (v.take (d + 1) ++ List.replicate (n - (d + 1)) x).getD d 0 = v.getD d 0 := by
  rw [List.getD_eq_getElem?_getD, List.getD_eq_getElem?_getD, List.getElem?_append_left (by simp; omega), List.getElem?_take_of_lt (by omega)]
set_option maxHeartbeats 8000000 in
set_option maxRecDepth 100000 in
theorem smallWeights_calls (n m : Nat) (hn : n ≤ 8) (hm : m ≤ 9) (G : FuncId) (fn : Func) (hG : Try.prog.funcs[G]? = some fn) (hname : (fn.name == "runtime.NumGoroutine") = false) (hbody : fn.body.isSome = true) (caps : Array Value) (w : World)
    (Inv : List (List Int) → World → Prop) (h0 : ∀ cs, Inv [] (w.alloc (.cells cs 3))) (hset : ∀ ds W i v, Inv ds W → Inv ds (W.setCell ⟨w.heap.size, i, none⟩ v)) (hdrew : ∀ ds W, Inv ds W → Inv ds W.drew)
    (hstep : ∀ (i : Nat) (v : List Int) (W : World), (wts m n)[i]? = some v → Inv ((wts m n).take i) W → W.heap[w.heap.size]? = some (row3 v) →
      Calls Try.prog G (#[.slice (some ⟨w.heap.size, 0, none⟩) n n] ++ caps) W fun e W' => e = .returned (.tuple #[]) ∧ Inv ((wts m n).take (i + 1)) W' ∧ W'.heap[w.heap.size]? = W.heap[w.heap.size]?) :
    Calls Try.prog 110 #[.int .i64 (n : Int), .int .i64 (m : Int), .func (.func G) #[] caps] w fun e w' => e = .returned (.tuple #[]) ∧ Inv (wts m n) w' := by
  have hmk := print_make (P := Try.prog) 24 3 .i64 8 Try.underlying24 info3 (by decide) n (by omega)
  have H0 := Aside0.mk h0
  have HSet := Aside0.mk hset
  have HDrew := Aside0.mk hdrew
  have HStep := Aside0.mk hstep
  clear h0 hset hdrew hstep
  go_enter Try.func110, Try.ntmps110
  go_wp2
  go_loopw [7, 13] (fun v7 v13 w' => ∃ j : Nat, v13 = .int .i64 (j : Int) ∧ Aside0 (j ≤ n) ∧ Aside0 (w'.heap[w.heap.size]? = some (row3 (List.replicate j (-(m : Int)) ++ List.replicate (n - j) 0))) ∧ Aside0 (Inv [] w')) (fun _ v13 _ => n - (intOf v13).toNat)
  case atStart => exact ⟨0, rfl, ⟨Nat.zero_le _⟩, ⟨by rw [heap_alloc_new]; refine congrArg (fun x => some (Obj.cells x 3 (0, 0))) ?_; apply Array.ext <;> simp [nums, madeCells, Nat.mod_one]⟩, ⟨H0.out _⟩⟩
  case round =>
    obtain ⟨j, rfl, HJ, HR, HI⟩ := hrel
    by_cases c : j < n
    · have c0 : decide ((j : Int) < (n : Int)) = true := decide_eq_true (by omega)
      have c1 : decide (j < n) = true := decide_eq_true c
      have HC := Aside0.mk c
      have hjn : (j : Int) ≤ 1048576 := by have := HC.out; omega
      have h0j : (0 : Int) ≤ (j : Int) := by omega
      have hfr : ∀ i, wr.frozen? ⟨w.heap.size, i, none⟩ = false := fun i => blk_frozen HR.out i
      have hcl : wr.cell? ⟨w.heap.size, j, none⟩ = some (.int .i64 0) := by
        rw [row3_cell HR.out j (by have := HC.out; simp; omega)]
        simp [List.getD_eq_getElem?_getD, List.getElem?_append_right, show 0 < n - j by have := HC.out; omega]
      go_wp2
      go_roundw
      case rel => exact ⟨j + 1, by go_num, ⟨by have := HC.out; omega⟩, ⟨row3_eq (row3_set HR.out j _) (by have e1 : wrap64 (-(m : Int)) = -(m : Int) := (by unfold wrap64; omega); (try rw [e1]); exact rep_step j n _ HC.out)⟩, ⟨HSet.out _ _ _ _ HI.out⟩⟩
      case measure => have := HC.out; simp [intOf]; omega
    · have c0 : decide ((j : Int) < (n : Int)) = false := decide_eq_false (by omega)
      have c1 : decide (j < n) = false := decide_eq_false c
      have e : j = n := by have := HJ.out; omega
      subst e
      have HR1 := row3_eq HR.out (show List.replicate j (-(m : Int)) ++ List.replicate (j - j) 0 = List.replicate j (-(m : Int)) by simp)
      have HRR := Aside0.mk HR1
      clear HR HR1 c
      go_wp2
      go_loopg [8] (wts m j).length (fun kq v8 w' => ∃ (i : Nat) (v : List Int), Aside0 ((wts m j)[i]? = some v) ∧ Aside0 (kq + i = (wts m j).length) ∧ Aside0 (w'.heap[w.heap.size]? = some (row3 v)) ∧ Aside0 (Inv ((wts m j).take i) w'))
      case atStart => exact ⟨0, _, ⟨wts_head m j⟩, ⟨rfl⟩, HRR, HI⟩
      case round =>
        clear HRR HI
        obtain ⟨i, v, HV, HK, HR, HI⟩ := hrel
        have hE := fun args W => enters_ hG hname hbody args W
        have hvl := wts_len m j v (List.mem_of_getElem? HV.out)
        have hil := (List.getElem?_eq_some_iff.1 HV.out).1
        cases gk with
        | zero => have := HK.out; omega
        | succ k1 =>
        have HIL := Aside0.mk hil
        clear hil
        go_wp2_with (first | ((with_reducible refine (HStep.out i v _ HV.out HI.out HR.out).mono ?_); rintro e w2 ⟨rfl, hi2, hb2⟩; have n0_ := Aside0.mk hi2; have n1_ := Aside0.mk (hb2.trans HR.out); clear HI HR hi2 hb2; have HI := n0_; have HR := n1_; clear n0_ n1_))
        go_loopw [8] (fun v8 w' => ∃ d : Nat, v8 = .int .i64 ((d : Int) - 1) ∧ Aside0 (d ≤ j) ∧ Aside0 (∀ x, d ≤ x → x < j → v.getD x 0 = m) ∧ Aside0 (w'.heap[w.heap.size]? = some (row3 (v.take d ++ List.replicate (j - d) (-(m : Int))))) ∧ Aside0 (Inv ((wts m j).take (i + 1)) w')) (fun v8 _ => (intOf v8 + 1).toNat)
        case atStart => exact ⟨j, by go_num, ⟨Nat.le_refl _⟩, ⟨fun x h1 h2 => by omega⟩, ⟨row3_eq HR.out (by simp [List.take_of_length_le (Nat.le_of_eq hvl)])⟩, HI⟩
        case round =>
          clear HR HI
          obtain ⟨d, rfl, HD, HM, HR, HI⟩ := hrel
          have hd := HD.out
          cases d with
          | zero =>
            have hlast : (wts m j).take (i + 1) = wts m j := by
              have h1 := wts_next m j i v HV.out
              rw [wnext_none m v (fun x hx => HM.out x (Nat.zero_le _) (by omega))] at h1
              exact List.take_of_length_le (List.getElem?_eq_none_iff.1 h1.symm)
            have HL := Aside0.mk (hlast ▸ HI.out)
            clear hlast
            go_wp2
            ((try simp only [Exit.inBlock, Exit.then]); refine bodyPost_ret (results_none rfl _ _ _) rfl ?_)
            exact ⟨rfl, HL.out⟩
          | succ d =>
            have hfr : ∀ i, wr.frozen? ⟨w.heap.size, i, none⟩ = false := fun i => blk_frozen HR.out i
            have hcl : wr.cell? ⟨w.heap.size, d, none⟩ = some (.int .i64 (v.getD d 0)) := by
              rw [row3_cell HR.out d (by simp; omega), down_at v d j _ hvl hd]
            have hj8 : (d : Int) ≤ 8 := by omega
            have hdn : d < j := by omega
            have h0d : (0 : Int) ≤ (d : Int) := by omega
            have hxb := wts_bd m j v (List.mem_of_getElem? HV.out) (v.getD d 0) (by rw [List.getD_eq_getElem?_getD, List.getElem?_eq_getElem (by omega)]; exact List.getElem_mem _)
            obtain ⟨x, hx⟩ : ∃ x, v.getD d 0 = x := ⟨_, rfl⟩
            rw [hx] at hcl hxb
            have HX := Aside0.mk hx
            clear hx
            by_cases c : x = (m : Int)
            · have c0 : (x == (m : Int)) = true := beq_iff_eq.mpr c
              go_wp2
              go_roundw
              case rel =>
                refine ⟨d, by go_num, ⟨by omega⟩, ⟨fun y h1 h2 => ?_⟩, ⟨row3_eq (row3_set HR.out d _) (by have e1 : wrap64 (-(m : Int)) = -(m : Int) := (by unfold wrap64; omega); (try rw [e1]); exact down_step v d j _ hvl hd)⟩, ⟨HSet.out _ _ _ _ HI.out⟩⟩
                rcases Nat.lt_or_ge d y with h | h
                · exact HM.out y h h2
                · rw [show y = d by omega, HX.out]; exact c
              case measure => simp [intOf]
            · have c0 : (x == (m : Int)) = false := beq_eq_false_iff_ne.mpr c
              have hnx := wts_next m j i v HV.out
              rw [wnext_some m v d (by omega) (by rw [HX.out]; exact c) (fun y h1 h2 => HM.out y h1 (by omega)), HX.out] at hnx
              have HN := Aside0.mk hnx.symm
              clear hnx
              go_wp2
              go_roundg k1
              case measure => exact Nat.lt_succ_self _
              case rel =>
                refine ⟨i + 1, _, HN, ⟨by have := HK.out; omega⟩, ⟨row3_eq (row3_set HR.out d _) ?_⟩, ⟨HSet.out _ _ _ _ HI.out⟩⟩
                have e1 : wrap64 (x + 1) = x + 1 := by unfold wrap64; omega
                (try rw [e1])
                rw [List.set_append_left _ _ (by simp; omega), List.take_succ_eq_append_getElem (by omega), List.set_append_right _ _ (by simp; omega)]
                simp [show min d j = d by omega, hvl, Nat.sub_sub]
theorem row3_C {w : World} {g : Nat} {xs : List Int} (h : w.heap[g]? = some (row3 xs)) (hl : xs.length ≤ 9223372036854775807) : Kd.C (Kd.int .i64) w (some ⟨g, 0, none⟩) xs.length xs := by
  refine ⟨rfl, hl, fun hp => ⟨_, rfl, fun j p hj => ?_⟩⟩
  have hjl := (List.getElem?_eq_some_iff.1 hj).1
  refine ⟨[.int .i64 p], rfl, rfl, fun i u hu => ?_⟩
  cases i with
  | zero =>
    simp only [List.getElem?_cons_zero, Option.some.injEq] at hu
    subst hu
    have := row3_cell h j hjl
    rw [List.getD_eq_getElem?_getD, hj] at this
    show w.cell? ((⟨g, 0, none⟩ : Addr).add (j * 1 + 0)) = _
    rw [add_plain, Nat.mul_one, Nat.add_zero]; exact this
  | succ i => simp at hu
/-- What a call made is none of three blocks that stood before it. -/
theorem Kd.R_new3 {w w1 : World} {v : Value} {xs : List Int} {o1 o2 o3 : Obj} {g1 g2 g3 : Nat} (h : Kd.R (Kd.int .i64) 3 w1 w.heap.size (fun _ => True) v xs) (h1 : w.heap[g1]? = some o1) (h2 : w.heap[g2]? = some o2) (h3 : w.heap[g3]? = some o3) :
    Kd.R (Kd.int .i64) 3 w1 w.heap.size (fun k => k ≠ g1 ∧ k ≠ g2 ∧ k ≠ g3) v xs :=
  Kd.R_mono (Kd.R_bound h) (fun k hk => by
    have e1 := blk_lt h1
    have e2 := blk_lt h2
    have e3 := blk_lt h3
    have := hk.2.1
    exact ⟨by omega, by omega, by omega⟩)
theorem foldlM_take {σ α : Type} (f : σ → α → Option σ) (l : List α) (i : Nat) (x : α) (s : σ) (h : l[i]? = some x) : (l.take (i + 1)).foldlM f s = ((l.take i).foldlM f s).bind fun t => f t x := by
  have hi := (List.getElem?_eq_some_iff.1 h).1
  rw [List.take_succ_eq_append_getElem hi, List.foldlM_append, (List.getElem?_eq_some_iff.1 h).2]
  cases List.foldlM f s (List.take i l) <;> simp
theorem foldlM_pre {σ α : Type} (f : σ → α → Option σ) (l : List α) (i : Nat) (s r : σ) (h : l.foldlM f s = some r) : ∃ t, (l.take i).foldlM f s = some t := by
  rw [← List.take_append_drop i l, List.foldlM_append] at h
  cases e : List.foldlM f s (List.take i l) with
  | none => rw [e] at h; cases h
  | some t => exact ⟨t, rfl⟩
theorem foldlM_mono {σ α : Type} {f g : σ → α → Option σ} (h : ∀ s x, LeO (f s x) (g s x)) : ∀ (l : List α) (s : σ), LeO (l.foldlM f s) (l.foldlM g s) := by
  intro l
  induction l with
  | nil => intro s; exact LeO.refl _
  | cons x l ih => intro s; simp only [List.foldlM_cons]; exact LeO.bind (h s x) fun t => ih t

/-! ### impl_bitPoint: function 86 -/
def impl_bitPoint.l0 : Nat → Int → List Int → Int → Int → Option (List Int)
  | 0, _, _, _, _ => none
  | k + 1, x1, x5, x8, x9 => if x9 < x8 then (if 0 ≤ x9 then (if x5.length < 17592186044416 then (impl_bitPoint.l0 k x1 (x5 ++ [Go.bits .and .i64 (shr .i64 x1 x9) 1]) x8 (wrap64 (x9 + 1))) else (none)) else (none)) else (some x5)
def impl_bitPoint.f (k : Nat) (a0 : Int) (a1 : Int) : Option (List Int) := impl_bitPoint.l0 k a1 (([] : List Int)) a0 0
theorem impl_bitPoint.mono_l : ∀ k, (∀ y0 y1 y2 y3, LeO (impl_bitPoint.l0 k y0 y1 y2 y3) (impl_bitPoint.l0 (k + 1) y0 y1 y2 y3))
  | 0 => fun _ _ _ _ r h => by simp [impl_bitPoint.l0] at h
  | k + 1 => by
    have ih0 := impl_bitPoint.mono_l k
    · intro y0 y1 y2 y3
      unfold impl_bitPoint.l0
      repeat' first
      | (with_reducible exact ih0 _ _ _ _)
      | (with_reducible exact LeO.refl _)
      | (with_reducible exact LeO.none _)
      | (with_reducible refine LeO.ite ?_ ?_)
      | (with_reducible refine LeO.bind ?_ (fun _ => ?_))
      | exact ih0 _ _ _ _
      | exact LeO.none _
      | refine LeO.ite ?_ ?_
      | refine LeO.bind ?_ (fun _ => ?_)
theorem impl_bitPoint.mono : ∀ a0 a1 k, LeO (impl_bitPoint.f k a0 a1) (impl_bitPoint.f (k + 1) a0 a1) := by
  intro a0 a1 k
  have ih0 := impl_bitPoint.mono_l k
  unfold impl_bitPoint.f
  repeat' first
      | (with_reducible exact ih0 _ _ _ _)
      | (with_reducible exact LeO.refl _)
      | (with_reducible exact LeO.none _)
      | (with_reducible refine LeO.ite ?_ ?_)
      | (with_reducible refine LeO.bind ?_ (fun _ => ?_))
      | exact ih0 _ _ _ _
      | exact LeO.none _
      | refine LeO.ite ?_ ?_
      | refine LeO.bind ?_ (fun _ => ?_)
set_option maxHeartbeats 8000000 in
set_option maxRecDepth 100000 in
theorem impl_bitPoint.calls (k : Nat) (a0 : Int) (a1 : Int) (r : List Int) (w : World) (h : impl_bitPoint.f k a0 a1 = some r) :
    Calls Try.prog 86 #[.int .i64 a0, .int .i64 a1] w fun e w' => ∃ v0_ : Value, e = .returned (v0_) ∧ Kd.R (Kd.int .i64) 3 w' w.heap.size (fun _ => True) v0_ r ∧ Below w.heap.size w w' := by
  have HB := Aside0.mk (Below.refl w.heap.size w)
  have H : (impl_bitPoint.l0 k a1 (([] : List Int)) a0 0) = some r := h
  clear h
  obtain ⟨y179, hy179⟩ : ∃ y_ : List Int, y_ = (([] : List Int)) := ⟨_, rfl⟩
  replace H : (impl_bitPoint.l0 k a1 y179 a0 0) = some r := by first | (rw [hy179]; with_reducible exact H) | (have H2_ := (Option.bind_some _ _).symm.trans H; rw [hy179]; with_reducible exact H2_) | (have H2_ := (Option.bind_some _ _).symm.trans H; with_reducible exact H2_) | with_reducible exact H | (rw [hy179]; exact H) | exact H
  have Ny179 := Aside0.mk hy179
  clear hy179
  have H' := Aside0.mk H
  clear H
  go_enter Try.func86, Try.ntmps86
  go_wp2_with (first | ((with_reducible refine gate_dst (N := 7) rfl ?_); refine Kd.R_lit (Kd.int .i64) _ 3 ?hg (N := 7) ?hd (xs := ([] : List Int)) (inner := []) (ok := fun _ => True) (okp := fun _ => True) ?hr ?hp (fun _ hk => hk) trivial (Below.refl _ _) (Nat.le_refl _) (by simp) ?_; (case hd => rfl); (case hg => rfl); (case hr => first | (go_simp; done) | (go_simp; rfl)); (case hp => exact (Reps.none _ _)); intro v180 w3 ho4 hb hg_ hnew_; clear hg_ hnew_; (first | rw [← Ny179.out] at ho4 | (simp only [Int.reduceToNat] at ho4; rw [← Ny179.out] at ho4)); have n0_ := Aside0.mk (Kd.R_lower ho4 (below_size (by repeat (first | (with_reducible first | exact HB.out | apply below_alloc | apply pw_below_drewN | apply below_drew1) | exact HB.out)))); have n1_ := Aside0.mk (below_step (by repeat (first | (with_reducible first | exact HB.out | apply below_alloc | apply pw_below_drewN | apply below_drew1) | exact HB.out)) hb); clear HB; have HO181 := n0_; have HB := n1_; clear n0_ n1_; clear hb ho4))
  go_loopg [5, 9] k (fun kq v5 v9 w' => ∃ (x5_1 : List Int) (x9_1 : Int), v9 = .int .i64 x9_1 ∧ Aside0 (impl_bitPoint.l0 kq a1 x5_1 a0 x9_1 = some r) ∧ Aside0 (kq ≤ k) ∧ Aside0 (Kd.R (Kd.int .i64) 3 w' w.heap.size (fun _ => True) v5 x5_1) ∧ Aside0 (Below w.heap.size w w'))
  case atStart => exact ⟨(y179), (0), (by first | rfl | (simp; done) | (simp [*]; done)), H', ⟨Nat.le_refl _⟩, ⟨by (with_reducible repeat (first | apply Kd.R_alloc | apply Kd.R_drewN | apply Kd.R_drew)); exact HO181.out⟩, ⟨by repeat (first | (with_reducible first | exact HB.out | apply below_alloc | apply pw_below_drewN | apply below_drew1) | exact HB.out)⟩⟩
  case round =>
    clear H'
    try clear p2
    obtain ⟨x5_1, x9_1, rfl, HA, HK1, HO_5, HB⟩ := hrel
    cases gk with
    | zero => exact absurd HA.out (by simp [impl_bitPoint.l0])
    | succ k1 =>
      have H := HA.out
      clear HA
      simp only [impl_bitPoint.l0] at H
      by_cases c5 : x9_1 < a0
      · rw [if_pos c5] at H
        have c5b0 : decide (x9_1 < a0) = true := decide_eq_true c5
        clear c5
        by_cases c6 : 0 ≤ x9_1
        · rw [if_pos c6] at H
          have c6b0 := eq_true c6
          have c6b1 : decide (0 ≤ x9_1) = true := decide_eq_true c6
          clear c6
          obtain ⟨ji7, hji7⟩ : ∃ j_ : Int, (shr .i64 a1 x9_1) = j_ := ⟨_, rfl⟩
          replace H : (if x5_1.length < 17592186044416 then (impl_bitPoint.l0 k1 a1 (x5_1 ++ [Go.bits .and .i64 (ji7) 1]) a0 (wrap64 (x9_1 + 1))) else (none)) = some r := by first | (rw [hji7] at H; exact H) | (simp only [hji7] at H ⊢; exact H)
          have hji7_ : (a1 / 2 ^ min x9_1.toNat 64) = ji7 := hji7
          have hji7z : x9_1 ≤ 64 → (a1 / 2 ^ x9_1.toNat) = ji7 := shr_small hji7
          by_cases c8 : x5_1.length < 17592186044416
          · rw [if_pos c8] at H
            have LMc8 := Aside0.mk c8
            clear c8
            obtain ⟨y182, hy182⟩ : ∃ y_ : List Int, y_ = (x5_1 ++ [Go.bits .and .i64 (ji7) 1]) := ⟨_, rfl⟩
            replace H : (impl_bitPoint.l0 k1 a1 y182 a0 (wrap64 (x9_1 + 1))) = some r := by first | (rw [hy182]; with_reducible exact H) | (have H2_ := (Option.bind_some _ _).symm.trans H; rw [hy182]; with_reducible exact H2_) | (have H2_ := (Option.bind_some _ _).symm.trans H; with_reducible exact H2_) | with_reducible exact H | (rw [hy182]; exact H) | exact H
            have Ny182 := Aside0.mk hy182
            clear hy182
            have H' := Aside0.mk H
            clear H
            go_wp2_with (first | ((with_reducible refine gate_builtin (b := .append) (xs := #[.tmp 12, .tmp 17]) rfl ?_); at_builtin; refine Kd.R_append (Kd.int .i64) (w0 := w) w.heap.size rfl (.tmp 12) (.tmp 17) 24 3 (.int .i64 0) 8 rfl Try.underlying24 info3 rfl (by decide) (by omega) u5 x5_1 (Go.bits .and .i64 (ji7) 1) [.int .i64 (Go.bits .and .i64 (ji7) 1)] (fun _ => True) (fun _ => False) rfl rfl ?aP (fun _ hk => hk.elim) ?aF ?aO ?aB ?aS ?aL ?_; (case aP => exact rfl); (case aB => exact (by repeat (first | (with_reducible first | exact HB.out | apply below_alloc | apply pw_below_drewN | apply below_drew1) | exact HB.out))); (case aF => exact (fun _ _ => trivial)); (case aO => exact (by (with_reducible repeat (first | apply Kd.R_alloc | apply Kd.R_drewN | apply Kd.R_drew)); exact HO_5.out)); (case aS => exact (below_size (by repeat (first | (with_reducible first | exact HB.out | apply below_alloc | apply pw_below_drewN | apply below_drew1) | exact HB.out)))); (case aL => have := LMc8.out; omega); intro v183 w9 ho hb hg hat; rw [← Ny182.out] at ho; have n0_ := Aside0.mk (hb); have n1_ := Aside0.mk (ho); clear HB; clear HO_5; have HB := n0_; have HO184 := n1_; clear n0_ n1_; clear ho hb hg hat))
            go_roundg k1
            case measure => have := HK1.out; omega
            case rel => exact ⟨(y182), (wrap64 (x9_1 + 1)), (by first | rfl | (simp; done) | (simp [*]; done)), H', ⟨by have := HK1.out; omega⟩, ⟨by (with_reducible repeat (first | apply Kd.R_alloc | apply Kd.R_drewN | apply Kd.R_drew)); exact HO184.out⟩, ⟨by repeat (first | (with_reducible first | exact HB.out | apply below_alloc | apply pw_below_drewN | apply below_drew1) | exact HB.out)⟩⟩
          · rw [if_neg c8] at H
            exact absurd H (by simp)
        · rw [if_neg c6] at H
          exact absurd H (by simp)
      · rw [if_neg c5] at H
        have c5b0 : decide (x9_1 < a0) = false := decide_eq_false c5
        clear c5
        obtain rfl := Option.some.inj H
        go_wp2
        go_ret
        exact ⟨_, by first | rfl | (simp [errW_none, errW_some] <;> rfl) | (simp [*, errW_none, errW_some] <;> rfl), by (with_reducible repeat (first | apply Kd.R_alloc | apply Kd.R_drewN | apply Kd.R_drew)); exact HO_5.out, by repeat (first | (with_reducible first | exact HB.out | apply below_alloc | apply pw_below_drewN | apply below_drew1) | exact HB.out)⟩

/-! ### impl_product: function 145 -/
def impl_product.l0 : Nat → List Int → Int → List Int → Int → Int → Option (Int)
  | 0, _, _, _, _, _ => none
  | k + 1, x1, x5, x8, x9, x10 => if x10 < x9 then (if 0 ≤ x10 then (if x10 < (x8.length : Int) then (if x10 < (x1.length : Int) then (impl_product.l0 k x1 (wrap64 (x5 + (wrap64 ((rd x8 x10) * (rd x1 x10))))) x8 x9 (wrap64 (x10 + 1))) else (none)) else (none)) else (none)) else (some x5)
def impl_product.f (k : Nat) (l0 : List Int) (l1 : List Int) : Option (Int) := impl_product.l0 k l1 0 l0 (l0.length : Int) 0
theorem impl_product.mono_l : ∀ k, (∀ y0 y1 y2 y3 y4, LeO (impl_product.l0 k y0 y1 y2 y3 y4) (impl_product.l0 (k + 1) y0 y1 y2 y3 y4))
  | 0 => fun _ _ _ _ _ r h => by simp [impl_product.l0] at h
  | k + 1 => by
    have ih0 := impl_product.mono_l k
    · intro y0 y1 y2 y3 y4
      unfold impl_product.l0
      repeat' first
      | (with_reducible exact ih0 _ _ _ _ _)
      | (with_reducible exact LeO.refl _)
      | (with_reducible exact LeO.none _)
      | (with_reducible refine LeO.ite ?_ ?_)
      | (with_reducible refine LeO.bind ?_ (fun _ => ?_))
      | exact ih0 _ _ _ _ _
      | exact LeO.none _
      | refine LeO.ite ?_ ?_
      | refine LeO.bind ?_ (fun _ => ?_)
theorem impl_product.mono : ∀ a0 a1 k, LeO (impl_product.f k a0 a1) (impl_product.f (k + 1) a0 a1) := by
  intro a0 a1 k
  have ih0 := impl_product.mono_l k
  unfold impl_product.f
  repeat' first
      | (with_reducible exact ih0 _ _ _ _ _)
      | (with_reducible exact LeO.refl _)
      | (with_reducible exact LeO.none _)
      | (with_reducible refine LeO.ite ?_ ?_)
      | (with_reducible refine LeO.bind ?_ (fun _ => ?_))
      | exact ih0 _ _ _ _ _
      | exact LeO.none _
      | refine LeO.ite ?_ ?_
      | refine LeO.bind ?_ (fun _ => ?_)
set_option maxHeartbeats 8000000 in
set_option maxRecDepth 100000 in
theorem impl_product.calls (k : Nat) (A0 : Option Addr) (c0 : Nat) (l0 : List Int) (A1 : Option Addr) (c1 : Nat) (l1 : List Int) (r : Int) (w : World) (hr0 : Kd.C (Kd.int .i64) w A0 l0.length l0) (hc0 : l0.length ≤ c0) (hr1 : Kd.C (Kd.int .i64) w A1 l1.length l1) (hc1 : l1.length ≤ c1) (h : impl_product.f k l0 l1 = some r) :
    Calls Try.prog 145 #[.slice A0 l0.length c0, .slice A1 l1.length c1] w fun e w' => e = .returned (.int .i64 r) ∧ Drawn0 w w' := by
  have HR0 := Aside0.mk hr0
  have HC0 := Aside0.mk hc0
  clear hr0 hc0
  have HR1 := Aside0.mk hr1
  have HC1 := Aside0.mk hc1
  clear hr1 hc1
  have H : (impl_product.l0 k l1 0 l0 (l0.length : Int) 0) = some r := h
  clear h
  have H' := Aside0.mk H
  clear H
  go_enter Try.func145, Try.ntmps145
  go_wp2
  go_loopg [5, 10] k (fun kq v5 v10 w' => ∃ (x5_1 : Int) (x10_1 : Int), v5 = .int .i64 x5_1 ∧ v10 = .int .i64 x10_1 ∧ Aside0 (impl_product.l0 kq l1 x5_1 l0 (l0.length : Int) x10_1 = some r) ∧ Aside0 (kq ≤ k) ∧ Drawn0 w w')
  case atStart => exact ⟨(0), (0), (by first | rfl | (simp; done) | (simp [*]; done)), (by first | rfl | (simp; done) | (simp [*]; done)), H', ⟨Nat.le_refl _⟩, by repeat (first | exact Drawn0.refl _ | apply Drawn0.step)⟩
  case round =>
    clear H'
    try clear c1
    try clear p2
    obtain ⟨x5_1, x10_1, rfl, rfl, HA, HK1, ⟨m1, rfl⟩⟩ := hrel
    cases gk with
    | zero => exact absurd HA.out (by simp [impl_product.l0])
    | succ k1 =>
      have H := HA.out
      clear HA
      simp only [impl_product.l0] at H
      by_cases c3 : x10_1 < (l0.length : Int)
      · rw [if_pos c3] at H
        have c3b0 : decide (x10_1 < (l0.length : Int)) = true := decide_eq_true c3
        clear c3
        by_cases c4 : 0 ≤ x10_1
        · rw [if_pos c4] at H
          have c4b0 : decide (0 ≤ x10_1) = true := decide_eq_true c4
          clear c4
          by_cases c5 : x10_1 < (l0.length : Int)
          · rw [if_pos c5] at H
            have c5b0 : decide (x10_1 < (l0.length : Int)) = true := decide_eq_true c5
            clear c5
            by_cases c6 : x10_1 < (l1.length : Int)
            · rw [if_pos c6] at H
              have c6b0 : decide (x10_1 < (l1.length : Int)) = true := decide_eq_true c6
              clear c6
              have H' := Aside0.mk H
              clear H
              have p185 : 0 ≤ (x10_1 : Int) := of_decide_eq_true (by first | (with_reducible assumption) | assumption)
              have q185 : x10_1 < (l0.length : Int) := of_decide_eq_true (by first | (with_reducible assumption) | assumption)
              obtain ⟨ad185, e185, hx185_0⟩ := Kd.at_int HR0.out x10_1 p185 q185
              cases e185
              replace p185 := eq_true p185
              replace q185 := eq_true q185
              have p186 : 0 ≤ (x10_1 : Int) := of_decide_eq_true (by first | (with_reducible assumption) | assumption)
              have q186 : x10_1 < (l1.length : Int) := of_decide_eq_true (by first | (with_reducible assumption) | assumption)
              obtain ⟨ad186, e186, hx186_0⟩ := Kd.at_int HR1.out x10_1 p186 q186
              cases e186
              replace p186 := eq_true p186
              replace q186 := eq_true q186
              go_wp2
              go_roundg k1
              case measure => have := HK1.out; omega
              case rel => exact ⟨(wrap64 (x5_1 + (wrap64 ((rd l0 x10_1) * (rd l1 x10_1))))), (wrap64 (x10_1 + 1)), (by first | rfl | (simp; done) | (simp [*]; done)), (by first | rfl | (simp; done) | (simp [*]; done)), H', ⟨by have := HK1.out; omega⟩, by repeat (first | exact Drawn0.refl _ | apply Drawn0.step)⟩
            · rw [if_neg c6] at H
              exact absurd H (by simp)
          · rw [if_neg c5] at H
            exact absurd H (by simp)
        · rw [if_neg c4] at H
          exact absurd H (by simp)
      · rw [if_neg c3] at H
        have c3b0 : decide (x10_1 < (l0.length : Int)) = false := decide_eq_false c3
        clear c3
        obtain rfl := Option.some.inj H
        go_wp2
        go_ret
        exact ⟨by first | rfl | (simp; done) | (simp [*]; done), by repeat (first | exact Drawn0.refl _ | apply Drawn0.step)⟩

/-! ### impl_productsOf: function 115 -/
def impl_productsOf.l0 : Nat → Int → List Int → List Int → Int → Int → Option (List Int)
  | 0, _, _, _, _, _ => none
  | k + 1, x0, x1, x5, x9, x10 => if x10 < x9 then ((impl_bitPoint.f k x0 x10).bind fun t190 => ((impl_product.f k x1 t190).bind fun t193 => (if x5.length < 17592186044416 then (impl_productsOf.l0 k x0 x1 (x5 ++ [t193]) x9 (wrap64 (x10 + 1))) else (none)))) else (some x5)
def impl_productsOf.f (k : Nat) (a0 : Int) (l1 : List Int) : Option (List Int) := if 0 ≤ a0 then (impl_productsOf.l0 k a0 l1 (([] : List Int)) (shl .i64 1 a0) 0) else (none)
theorem impl_productsOf.mono_l : ∀ k, (∀ y0 y1 y2 y3 y4, LeO (impl_productsOf.l0 k y0 y1 y2 y3 y4) (impl_productsOf.l0 (k + 1) y0 y1 y2 y3 y4))
  | 0 => fun _ _ _ _ _ r h => by simp [impl_productsOf.l0] at h
  | k + 1 => by
    have ih0 := impl_productsOf.mono_l k
    · intro y0 y1 y2 y3 y4
      unfold impl_productsOf.l0
      repeat' first
      | (with_reducible exact ih0 _ _ _ _ _)
      | (with_reducible exact impl_bitPoint.mono _ _ _)
      | (with_reducible exact impl_product.mono _ _ _)
      | (with_reducible exact LeO.refl _)
      | (with_reducible exact LeO.none _)
      | (with_reducible refine LeO.ite ?_ ?_)
      | (with_reducible refine LeO.bind ?_ (fun _ => ?_))
      | exact ih0 _ _ _ _ _
      | exact impl_bitPoint.mono _ _ _
      | exact impl_product.mono _ _ _
      | exact LeO.none _
      | refine LeO.ite ?_ ?_
      | refine LeO.bind ?_ (fun _ => ?_)
theorem impl_productsOf.mono : ∀ a0 a1 k, LeO (impl_productsOf.f k a0 a1) (impl_productsOf.f (k + 1) a0 a1) := by
  intro a0 a1 k
  have ih0 := impl_productsOf.mono_l k
  unfold impl_productsOf.f
  repeat' first
      | (with_reducible exact ih0 _ _ _ _ _)
      | (with_reducible exact impl_bitPoint.mono _ _ _)
      | (with_reducible exact impl_product.mono _ _ _)
      | (with_reducible exact LeO.refl _)
      | (with_reducible exact LeO.none _)
      | (with_reducible refine LeO.ite ?_ ?_)
      | (with_reducible refine LeO.bind ?_ (fun _ => ?_))
      | exact ih0 _ _ _ _ _
      | exact impl_bitPoint.mono _ _ _
      | exact impl_product.mono _ _ _
      | exact LeO.none _
      | refine LeO.ite ?_ ?_
      | refine LeO.bind ?_ (fun _ => ?_)
set_option maxHeartbeats 8000000 in
set_option maxRecDepth 100000 in
theorem impl_productsOf.calls (k : Nat) (a0 : Int) (A1 : Option Addr) (c1 : Nat) (l1 : List Int) (r : List Int) (w : World) (hr1 : Kd.C (Kd.int .i64) w A1 l1.length l1) (hc1 : l1.length ≤ c1) (h : impl_productsOf.f k a0 l1 = some r) :
    Calls Try.prog 115 #[.int .i64 a0, .slice A1 l1.length c1] w fun e w' => ∃ v0_ : Value, e = .returned (v0_) ∧ Kd.R (Kd.int .i64) 3 w' w.heap.size (fun _ => True) v0_ r ∧ Below w.heap.size w w' := by
  have HR1 := Aside0.mk hr1
  have HC1 := Aside0.mk hc1
  clear hr1 hc1
  have HB := Aside0.mk (Below.refl w.heap.size w)
  have H : (if 0 ≤ a0 then (impl_productsOf.l0 k a0 l1 (([] : List Int)) (shl .i64 1 a0) 0) else (none)) = some r := h
  clear h
  obtain ⟨y187, hy187⟩ : ∃ y_ : List Int, y_ = (([] : List Int)) := ⟨_, rfl⟩
  replace H : (if 0 ≤ a0 then (impl_productsOf.l0 k a0 l1 y187 (shl .i64 1 a0) 0) else (none)) = some r := by first | (rw [hy187]; with_reducible exact H) | (have H2_ := (Option.bind_some _ _).symm.trans H; rw [hy187]; with_reducible exact H2_) | (have H2_ := (Option.bind_some _ _).symm.trans H; with_reducible exact H2_) | with_reducible exact H | (rw [hy187]; exact H) | exact H
  have Ny187 := Aside0.mk hy187
  clear hy187
  by_cases c3 : 0 ≤ a0
  · rw [if_pos c3] at H
    have c3b0 := eq_true c3
    have c3b1 : decide (0 ≤ a0) = true := decide_eq_true c3
    clear c3
    obtain ⟨ji4, hji4⟩ : ∃ j_ : Int, (shl .i64 1 a0) = j_ := ⟨_, rfl⟩
    replace H : (impl_productsOf.l0 k a0 l1 y187 ji4 0) = some r := by first | (rw [hji4] at H; exact H) | (simp only [hji4] at H ⊢; exact H)
    have hji4_ : (IntKind.i64.wrap (1 * 2 ^ min a0.toNat 64)) = ji4 := hji4
    have hji4z : a0 ≤ 64 → (IntKind.i64.wrap (1 * 2 ^ a0.toNat)) = ji4 := shl_small hji4
    have hji4u : (IntKind.i64.wrap (2 ^ min a0.toNat 64)) = ji4 := by have h_ := hji4_; rw [Int.one_mul] at h_; exact h_
    have hji4v : a0 ≤ 64 → (IntKind.i64.wrap (2 ^ a0.toNat)) = ji4 := fun hle_ => by have h_ := hji4z hle_; rw [Int.one_mul] at h_; exact h_
    have hji4y : (wrap64 (1 * 2 ^ min a0.toNat 64)) = ji4 := (i64_w _).symm.trans hji4_
    have hji4x : a0 ≤ 64 → (wrap64 (1 * 2 ^ a0.toNat)) = ji4 := fun h_ => (i64_w _).symm.trans (hji4z h_)
    have H' := Aside0.mk H
    clear H
    go_enter Try.func115, Try.ntmps115
    go_wp2_with (first | ((with_reducible refine gate_dst (N := 7) rfl ?_); refine Kd.R_lit (Kd.int .i64) _ 3 ?hg (N := 7) ?hd (xs := ([] : List Int)) (inner := []) (ok := fun _ => True) (okp := fun _ => True) ?hr ?hp (fun _ hk => hk) trivial (Below.refl _ _) (Nat.le_refl _) (by simp) ?_; (case hd => rfl); (case hg => rfl); (case hr => first | (go_simp; done) | (go_simp; rfl)); (case hp => exact (Reps.none _ _)); intro v188 w5 ho6 hb hg_ hnew_; clear hg_ hnew_; (first | rw [← Ny187.out] at ho6 | (simp only [Int.reduceToNat] at ho6; rw [← Ny187.out] at ho6)); have n0_ := Aside0.mk (Kd.R_lower ho6 (below_size (by repeat (first | (with_reducible first | exact HB.out | apply below_alloc | apply pw_below_drewN | apply below_drew1) | exact HB.out)))); have n1_ := Aside0.mk (below_step (by repeat (first | (with_reducible first | exact HB.out | apply below_alloc | apply pw_below_drewN | apply below_drew1) | exact HB.out)) hb); clear HB; have HO189 := n0_; have HB := n1_; clear n0_ n1_; clear hb ho6))
    go_loopg [5, 10] k (fun kq v5 v10 w' => ∃ (x5_1 : List Int) (x10_1 : Int), v10 = .int .i64 x10_1 ∧ Aside0 (impl_productsOf.l0 kq a0 l1 x5_1 ji4 x10_1 = some r) ∧ Aside0 (kq ≤ k) ∧ Aside0 (Kd.R (Kd.int .i64) 3 w' w.heap.size (fun _ => True) v5 x5_1) ∧ Aside0 (Below w.heap.size w w'))
    case atStart => exact ⟨(y187), (0), (by first | rfl | (simp; done) | (simp [*]; done)), H', ⟨Nat.le_refl _⟩, ⟨by (with_reducible repeat (first | apply Kd.R_alloc | apply Kd.R_drewN | apply Kd.R_drew)); exact HO189.out⟩, ⟨by repeat (first | (with_reducible first | exact HB.out | apply below_alloc | apply pw_below_drewN | apply below_drew1) | exact HB.out)⟩⟩
    case round =>
      clear H'
      try clear c1
      try clear p2
      try clear c3
      try clear c3b0
      try clear c3b1
      try clear p6
      obtain ⟨x5_1, x10_1, rfl, HA, HK1, HO_5, HB⟩ := hrel
      cases gk with
      | zero => exact absurd HA.out (by simp [impl_productsOf.l0])
      | succ k1 =>
        have H := HA.out
        clear HA
        simp only [impl_productsOf.l0] at H
        by_cases c7 : x10_1 < ji4
        · rw [if_pos c7] at H
          have c7b0 : decide (x10_1 < ji4) = true := decide_eq_true c7
          clear c7
          replace H := Option.bind_eq_some_iff.mp H
          obtain ⟨t190, A80, H⟩ := H
          replace H : ((impl_product.f k1 l1 t190).bind fun t193 => (if x5_1.length < 17592186044416 then (impl_productsOf.l0 k1 a0 l1 (x5_1 ++ [t193]) ji4 (wrap64 (x10_1 + 1))) else (none))) = some r := H
          have A8 := Aside0.mk A80
          clear A80
          replace H := Option.bind_eq_some_iff.mp H
          obtain ⟨t193, A90, H⟩ := H
          replace H : (if x5_1.length < 17592186044416 then (impl_productsOf.l0 k1 a0 l1 (x5_1 ++ [t193]) ji4 (wrap64 (x10_1 + 1))) else (none)) = some r := H
          have A9 := Aside0.mk A90
          clear A90
          by_cases c10 : x5_1.length < 17592186044416
          · rw [if_pos c10] at H
            have LMc10 := Aside0.mk c10
            clear c10
            obtain ⟨y194, hy194⟩ : ∃ y_ : List Int, y_ = (x5_1 ++ [t193]) := ⟨_, rfl⟩
            replace H : (impl_productsOf.l0 k1 a0 l1 y194 ji4 (wrap64 (x10_1 + 1))) = some r := by first | (rw [hy194]; with_reducible exact H) | (have H2_ := (Option.bind_some _ _).symm.trans H; rw [hy194]; with_reducible exact H2_) | (have H2_ := (Option.bind_some _ _).symm.trans H; with_reducible exact H2_) | with_reducible exact H | (rw [hy194]; exact H) | exact H
            have Ny194 := Aside0.mk hy194
            clear hy194
            have H' := Aside0.mk H
            clear H
            go_wp2_with (first | ((with_reducible refine gate_callee (f := 86) rfl ?_); refine goesL_ (some 17) rfl rfl Try.func86 (by kernel_rfl) rfl #[.int .i64 a0, .int .i64 x10_1] rfl (by (try simp only [List.map_toArray, List.map_cons, List.map_nil]); first | done | rfl | (simp only [List.length_drop, List.length_take]; rfl)) ?_; (with_reducible refine (impl_bitPoint.calls k1 a0 x10_1 t190 _ A8.out).mono ?_); rintro e w11 ⟨v191, rfl, ho0, hb⟩; refine ⟨_, rfl, ?_⟩; have n0_ := Aside0.mk (Kd.R_elder' (by (with_reducible repeat (first | apply Kd.R_alloc | apply Kd.R_drewN | apply Kd.R_drew)); exact HO_5.out) (Kd.R_base ho0) hb); have n1_ := Aside0.mk (Kd.R_lower (Kd.R_new' ho0 (Kd.R_lt (by (with_reducible repeat (first | apply Kd.R_alloc | apply Kd.R_drewN | apply Kd.R_drew)); exact HO_5.out))) (below_size (by repeat (first | (with_reducible first | exact HB.out | apply below_alloc | apply pw_below_drewN | apply below_drew1) | exact HB.out)))); have n2_ := Aside0.mk (below_step (by repeat (first | (with_reducible first | exact HB.out | apply below_alloc | apply pw_below_drewN | apply below_drew1) | exact HB.out)) hb); clear HO_5; clear HB; have HO_5 := n0_; have HO192 := n1_; have HB := n2_; clear n0_ n1_ n2_; (try clear hb); (try clear hb2); (try clear hk); (try clear hi); (try clear ho0); obtain ⟨Ao12, co12, eo12⟩ := Kd.R_slice HO192.out; subst eo12) | ((with_reducible refine gate_callee (f := 145) rfl ?_); refine goesL_ (some 18) rfl rfl Try.func145 (by kernel_rfl) rfl #[.slice A1 l1.length c1, .slice Ao12 t190.length co12] rfl (by (try simp only [List.map_toArray, List.map_cons, List.map_nil]); first | done | rfl | (simp only [List.length_drop, List.length_take]; rfl)) ?_; (with_reducible refine (impl_product.calls k1 _ _ l1 _ _ t190 t193 _ ?side1 ?side2 ?side3 ?side4 A9.out).mono ?_); (case side1 => repeat (first | exact (Kd.C_below HR1.out HB.out) | (with_reducible refine Kd.C_alloc ?_ _) | (with_reducible refine Kd.C_drewN ?_ _) | (with_reducible refine Kd.C_drew ?_))); (case side2 => exact HC1.out); (case side3 => repeat (first | exact (Kd.R_reads' HO192.out).2.2 | (with_reducible refine Kd.C_alloc ?_ _) | (with_reducible refine Kd.C_drewN ?_ _) | (with_reducible refine Kd.C_drew ?_))); (case side4 => exact (Kd.R_reads' HO192.out).2.1); rintro e w' ⟨rfl, ⟨nd, rfl⟩⟩; refine ⟨_, rfl, ?_⟩) | ((with_reducible refine gate_builtin (b := .append) (xs := #[.tmp 13, .tmp 19]) rfl ?_); at_builtin; refine Kd.R_append (Kd.int .i64) (w0 := w) w.heap.size rfl (.tmp 13) (.tmp 19) 24 3 (.int .i64 0) 8 rfl Try.underlying24 info3 rfl (by decide) (by omega) u5 x5_1 t193 [.int .i64 t193] (fun k_ => some k_ ≠ (.slice Ao12 t190.length co12 : Value).ownBlock) (fun _ => False) rfl rfl ?aP (fun _ hk => hk.elim) ?aF ?aO ?aB ?aS ?aL ?_; (case aP => exact rfl); (case aB => exact (by repeat (first | (with_reducible first | exact HB.out | apply below_alloc | apply pw_below_drewN | apply below_drew1) | exact HB.out))); (case aF => exact (fun k_ hk => Kd.fresh' (Kd.R_lt (by (with_reducible repeat (first | apply Kd.R_alloc | apply Kd.R_drewN | apply Kd.R_drew)); exact HO192.out)) k_ hk)); (case aO => exact (by (with_reducible repeat (first | apply Kd.R_alloc | apply Kd.R_drewN | apply Kd.R_drew)); exact Kd.R_mono HO_5.out (fun _ hk => hk.2))); (case aS => exact (below_size (by repeat (first | (with_reducible first | exact HB.out | apply below_alloc | apply pw_below_drewN | apply below_drew1) | exact HB.out)))); (case aL => have := LMc10.out; omega); intro v195 w13 ho hb hg hat; rw [← Ny194.out] at ho; have n0_ := Aside0.mk (Kd.R_after (ok := (fun _ => True)) (by (with_reducible repeat (first | apply Kd.R_alloc | apply Kd.R_drewN | apply Kd.R_drew)); exact HO192.out) hg hat); have n1_ := Aside0.mk (hb); have n2_ := Aside0.mk (ho); clear HO192; clear HB; clear HO_5; have HO192 := n0_; have HB := n1_; have HO196 := n2_; clear n0_ n1_ n2_; clear ho hb hg hat))
            go_roundg k1
            case measure => have := HK1.out; omega
            case rel => exact ⟨(y194), (wrap64 (x10_1 + 1)), (by first | rfl | (simp; done) | (simp [*]; done)), H', ⟨by have := HK1.out; omega⟩, ⟨by (with_reducible repeat (first | apply Kd.R_alloc | apply Kd.R_drewN | apply Kd.R_drew)); exact Kd.R_mono HO196.out (fun _ hk => trivial)⟩, ⟨by repeat (first | (with_reducible first | exact HB.out | apply below_alloc | apply pw_below_drewN | apply below_drew1) | exact HB.out)⟩⟩
          · rw [if_neg c10] at H
            exact absurd H (by simp)
        · rw [if_neg c7] at H
          have c7b0 : decide (x10_1 < ji4) = false := decide_eq_false c7
          clear c7
          obtain rfl := Option.some.inj H
          go_wp2
          go_ret
          exact ⟨_, by first | rfl | (simp [errW_none, errW_some] <;> rfl) | (simp only [← hji4]; first | rfl | (simp [errW_none, errW_some] <;> rfl)) | (simp [*, errW_none, errW_some] <;> rfl), by (with_reducible repeat (first | apply Kd.R_alloc | apply Kd.R_drewN | apply Kd.R_drew)); exact HO_5.out, by repeat (first | (with_reducible first | exact HB.out | apply below_alloc | apply pw_below_drewN | apply below_drew1) | exact HB.out)⟩
  · rw [if_neg c3] at H
    exact absurd H (by simp)

-- NOT PRINTED: function 138 (impl_tablesOf_1)

/-! ### impl_tablesOf: function 95 -/
/-- The set of the places whose products reach a bound: the first j places. -/
def tcode (p : List Int) (b : Int) : Nat → Nat
  | 0 => 0
  | j + 1 => if rd p (j : Int) ≥ b then tcode p b j ||| 2 ^ j else tcode p b j
theorem tcode_lt (p : List Int) (b : Int) : ∀ j, tcode p b j < 2 ^ j := by
  intro j
  induction j with
  | zero => simp [tcode]
  | succ j ih =>
    simp only [tcode]
    have h2 : 2 ^ j < 2 ^ (j + 1) := Nat.pow_lt_pow_right (by decide) (by omega)
    split
    · exact Nat.or_lt_two_pow (by omega) h2
    · omega
def tcodes (p : List Int) (bs : List Int) : List Int := bs.map fun b => ((tcode p b p.length : Nat) : Int)
/-- One list of weights. -/
def impl_tablesOf.step (k : Nat) (n : Int) (acc : List Int) (v : List Int) : Option (List Int) :=
  (impl_productsOf.f k n v).bind fun p => if p.length ≤ 16 ∧ acc.length ≤ 1000000 then some (acc ++ tcodes p (p ++ [99])) else none
def tdat (codes : List Int) : DataW Unit := Maps.setOf (.lit (.bool true)) (codes.map fun c => Lit.int .i64 c)
def Mset (w : World) (bm : Nat) (codes : List Int) : Prop := w.ownsMap Try.prog 3 (plainElem Try.prog 4) bm codes.length (tdat codes)
theorem tdat_snoc (codes : List Int) (c : Int) : tdat (codes ++ [c]) = (tdat codes).put (.int .i64 c) (.lit (.bool true)) := by
  unfold tdat
  rw [List.map_append, List.map_cons, List.map_nil, Maps.setOf_snoc]
theorem Mset.below {w w1 : World} {bm : Nat} {codes : List Int} (h : Mset w bm codes) (hb : Below w.heap.size w w1) : Mset w1 bm codes :=
  World.ownsMap.kept (row := none) h ⟨hb.os, hb.tape, hb.output, hb.size, fun k hk _ => hb.block k hk⟩ (by simp)
theorem tgrown_blk {w w1 : World} {bm g : Nat} {o : Obj} (hg : w.heap[g]? = some o) (h : w.grownBy w1 (some bm)) (hne : g ≠ bm) : w1.heap[g]? = some o :=
  (h.block g (blk_lt hg) (fun e => hne (by injection e))).trans hg
theorem tgrown_below {B bm : Nat} {w0 w w1 : World} (hB : Below B w0 w) (hs : B ≤ w.heap.size) (h1 : B ≤ bm) (hg : w.grownBy w1 (some bm)) : Below B w0 w1 :=
  ⟨hg.os.trans hB.os, hg.tape.trans hB.tape, hg.output.trans hB.output, Nat.le_trans hB.size hg.size, fun k hk => (hg.block k (Nat.lt_of_lt_of_le hk hs) (fun e => by injection e with e; omega)).trans (hB.block k hk)⟩
theorem tcode_or (a b : Nat) (ha : a < 65536) (hb : b < 65536) : Go.bits .or .i64 (a : Int) (b : Int) = ((a ||| b : Nat) : Int) :=
  (bits_nat .i64 63 (by decide) (fun n h₀ h₁ => by rw [IntKind.wrap_i64]; omega) a b (by omega) (by omega)).2
theorem tcode_wrap (n : Nat) (h : n < 65536) : wrap64 (n : Int) = (n : Int) := by unfold wrap64; omega
theorem tcode_wf (n : Nat) (h : n < 131072) : (Lit.int .i64 (n : Int)).wf = true := by
  simp only [Lit.wf, IntKind.min, IntKind.max, IntKind.signed, IntKind.bits, Bool.and_eq_true, decide_eq_true_eq, if_true]; omega
set_option maxHeartbeats 8000000 in
set_option maxRecDepth 100000 in
theorem impl_tablesOf.one (k : Nat) (v codes codes' : List Int) (g bn bm bo : Nat) (w0 w : World) (hn : v.length ≤ 8)
    (hg : w.heap[g]? = some (row3 v)) (hnb : w.heap[bn]? = some (.cells #[.int .i64 (v.length : Int)] 3 (0, 0))) (hob : w.heap[bo]? = some (.cells #[.map (some bm)] 96 (0, 0)))
    (hs : Mset w bm codes) (hB : Below w0.heap.size w0 w) (h0 : w0.heap.size ≤ bm) (e1 : g ≠ bm) (e2 : bn ≠ bm) (e3 : bo ≠ bm) (h : impl_tablesOf.step k (v.length : Int) codes v = some codes') :
    Calls Try.prog 138 #[.slice (some ⟨g, 0, none⟩) v.length v.length, .pointer (some ⟨bn, 0, none⟩), .pointer (some ⟨bo, 0, none⟩)] w fun e w' => e = .returned (.tuple #[]) ∧
      w'.heap[g]? = some (row3 v) ∧ w'.heap[bn]? = some (.cells #[.int .i64 (v.length : Int)] 3 (0, 0)) ∧ w'.heap[bo]? = some (.cells #[.map (some bm)] 96 (0, 0)) ∧ Mset w' bm codes' ∧ Below w0.heap.size w0 w' := by
  have hmb : bm < w.heap.size := World.ownsMap.lt hs
  have HG := Aside0.mk hg
  have HN := Aside0.mk hnb
  have HO := Aside0.mk hob
  have HS := Aside0.mk hs
  have HB := Aside0.mk hB
  have HMB := Aside0.mk hmb
  have HNE := Aside0.mk (And.intro e1 (And.intro e2 (And.intro e3 h0)))
  unfold impl_tablesOf.step at h
  obtain ⟨p, hp, h⟩ := Option.bind_eq_some_iff.mp h
  have hlen : p.length ≤ 16 ∧ codes.length ≤ 1000000 := by
    refine Classical.byContradiction fun hn_ => ?_
    rw [if_neg hn_] at h; cases h
  rw [if_pos hlen] at h
  have HRES := Aside0.mk (Option.some.inj h)
  have HP := Aside0.mk hp
  have HLEN := Aside0.mk hlen
  have hcn : w.cell? ⟨bn, 0, none⟩ = some (.int .i64 (v.length : Int)) := (blk_cell hnb 0).trans rfl
  clear hg hnb hob hs hB h0 e1 e2 e3 h hp hlen hmb
  obtain ⟨bs, hbs⟩ : ∃ bs, p ++ [99] = bs := ⟨_, rfl⟩
  have HBS := Aside0.mk hbs
  have HBL := Aside0.mk (show bs.length ≤ 17 by rw [← hbs, List.length_append, List.length_singleton]; have := HLEN.out.1; omega)
  rw [hbs] at HRES
  clear hbs
  go_enter Try.func138, Try.ntmps138
  go_wp2_with (first | (go_at_call 115; (with_reducible refine (impl_productsOf.calls k _ _ _ v p _ ?side1 ?side2 HP.out).mono ?_); (case side1 => exact row3_C HG.out (by omega)); (case side2 => exact Nat.le_refl _); rintro e w3 ⟨vp, rfl, hpr, hb⟩; obtain ⟨Ap, cp, rfl, hlp, hcp⟩ := Kd.R_reads hpr; have HPR := Aside0.mk (Kd.R_mono (Kd.R_bound hpr) (fun k_ hk_ => hk_.2.1)); have HW := Aside0.mk hb; clear hb hpr hlp hcp hcn) | ((with_reducible refine gate_builtin (b := .append) (xs := #[.tmp 11, .tmp 12]) rfl ?_); at_builtin; refine Kd.R_append (Kd.int .i64) (w0 := w) w.heap.size rfl (.tmp 11) (.tmp 12) 24 3 (.int .i64 0) 8 rfl Try.underlying24 info3 rfl (by decide) (by omega) (.slice Ap p.length cp) p 99 [.int .i64 99] (fun k_ => w.heap.size ≤ k_) (fun _ => False) rfl rfl ?aP (fun _ hk => hk.elim) ?aF HPR.out HW.out (below_size HW.out) ?aL ?_; (case aP => exact rfl); (case aF => exact (fun k_ hk_ => Nat.le_trans (below_size HW.out) hk_)); (case aL => have := HLEN.out.1; omega); intro v1 w4 ho hb hg4 hat; rw [HBS.out] at ho; obtain ⟨Ab, cb, rfl⟩ := Kd.R_slice ho; have HF := Aside0.mk (Kd.R_F ho); have n0_ := Aside0.mk ((Below.block hb _ (blk_lt HG.out)).trans HG.out); have n1_ := Aside0.mk ((Below.block hb _ (blk_lt HN.out)).trans HN.out); have n2_ := Aside0.mk ((Below.block hb _ (blk_lt HO.out)).trans HO.out); have n3_ := Aside0.mk (Mset.below HS.out hb); have n4_ := Aside0.mk (below_step HB.out hb); clear HG HN HO HS HB; have HG := n0_; have HN := n1_; have HO := n2_; have HS := n3_; have HB := n4_; clear n0_ n1_ n2_ n3_ n4_; clear ho hg4 hat hb HPR HW))
  go_loopw [15] (fun v15 w' => ∃ i : Nat, v15 = .int .i64 (i : Int) ∧ Aside0 (i ≤ bs.length) ∧ Aside0 (w'.heap[g]? = some (row3 v)) ∧ Aside0 (w'.heap[bn]? = some (.cells #[.int .i64 (v.length : Int)] 3 (0, 0))) ∧ Aside0 (w'.heap[bo]? = some (.cells #[.map (some bm)] 96 (0, 0))) ∧ Aside0 (Mset w' bm (codes ++ tcodes p (bs.take i))) ∧ Aside0 (Below w0.heap.size w0 w') ∧ Aside0 (Kd.F (Kd.int .i64) w' (fun k_ => w.heap.size ≤ k_) Ab bs.length bs)) (fun v15 _ => bs.length - (intOf v15).toNat)
  case atStart => exact ⟨0, rfl, ⟨Nat.zero_le _⟩, HG, HN, HO, ⟨by rw [List.take_zero, show tcodes p [] = [] from rfl, List.append_nil]; exact HS.out⟩, HB, HF⟩
  case round =>
    clear HG HN HO HS HB HF
    obtain ⟨i, rfl, HI, HG, HN, HO, HS, HB, HF⟩ := hrel
    have hbl := HBL.out
    by_cases ci : i < bs.length
    · have d0 : decide ((i : Int) < (bs.length : Int)) = true := decide_eq_true (by omega)
      have d1 : decide (i < bs.length) = true := decide_eq_true ci
      have h0i : (0 : Int) ≤ (i : Int) := by omega
      obtain ⟨ad, e1, hci⟩ := Kd.at_int (Kd.F_now HF.out) (i : Int) (by omega) (by omega)
      cases e1
      rw [Int.toNat_natCast] at hci
      have hcn : wr.cell? ⟨bn, 0, none⟩ = some (.int .i64 (v.length : Int)) := (blk_cell HN.out 0).trans rfl
      have HTK := Aside0.mk (show tcodes p (bs.take (i + 1)) = tcodes p (bs.take i) ++ [((tcode p (rd bs (i : Int)) p.length : Nat) : Int)] by
        unfold tcodes
        rw [List.take_succ_eq_append_getElem ci, List.map_append]
        simp [rd, List.getD_eq_getElem?_getD, List.getElem?_eq_getElem ci])
      obtain ⟨b, hb_⟩ : ∃ b, rd bs (i : Int) = b := ⟨_, rfl⟩
      rw [hb_] at hci HTK
      have HIL := Aside0.mk ci
      clear hb_
      go_wp2_with (first | (go_at_call 115; (with_reducible refine (impl_productsOf.calls k _ _ _ v p _ ?side1 ?side2 HP.out).mono ?_); (case side1 => exact row3_C HG.out (by omega)); (case side2 => exact Nat.le_refl _); rintro e w6 ⟨vp, rfl, hpr, hb⟩; obtain ⟨Ap2, cp2, rfl, hlp, hcp⟩ := Kd.R_reads hpr; have HC := Aside0.mk (Kd.R_reads' hpr).2.2; have n0_ := Aside0.mk ((Below.block hb _ (blk_lt HG.out)).trans HG.out); have n1_ := Aside0.mk ((Below.block hb _ (blk_lt HN.out)).trans HN.out); have n2_ := Aside0.mk ((Below.block hb _ (blk_lt HO.out)).trans HO.out); have n3_ := Aside0.mk (Mset.below HS.out hb); have n4_ := Aside0.mk (below_step HB.out hb); have n5_ := Aside0.mk (Kd.F_below HF.out hb); clear HG HN HO HS HB HF; have HG := n0_; have HN := n1_; have HO := n2_; have HS := n3_; have HB := n4_; have HF := n5_; clear n0_ n1_ n2_ n3_ n4_ n5_; clear hb hpr hlp hcp hcn))
      go_loopw [6, 23] (fun v6 v23 w' => ∃ j : Nat, w' = w6 ∧ v23 = .int .i64 (j : Int) ∧ v6 = .int .i64 ((tcode p b j : Nat) : Int) ∧ Aside0 (j ≤ p.length)) (fun _ v23 _ => p.length - (intOf v23).toNat)
      case atStart => exact ⟨0, rfl, rfl, rfl, ⟨Nat.zero_le _⟩⟩
      case round =>
        obtain ⟨j, rfl, rfl, rfl, HJ⟩ := hrel
        have hl16 := HLEN.out.1
        have hkl := tcode_lt p b j
        by_cases cj : j < p.length
        · have d2 : decide ((j : Int) < (p.length : Int)) = true := decide_eq_true (by omega)
          have d3 : decide (j < p.length) = true := decide_eq_true cj
          have h0j : (0 : Int) ≤ (j : Int) := by omega
          have d4 : decide (0 ≤ (j : Int)) = true := decide_eq_true h0j
          have hjb : (j : Int) ≤ 16 := by omega
          obtain ⟨ad2, e2, hcj⟩ := Kd.at_int HC.out (j : Int) (by omega) (by omega)
          cases e2
          rw [Int.toNat_natCast] at hcj
          obtain ⟨pw, hpw⟩ : ∃ q, 2 ^ j = q := ⟨_, rfl⟩
          have hcast : ((2 : Int) ^ j) = (pw : Int) := by rw [← hpw]; simp
          have hpb : pw < 65536 := by rw [← hpw]; exact Nat.lt_of_le_of_lt (Nat.pow_le_pow_right (n := 2) (by decide) (show j ≤ 15 by omega)) (by decide)
          have hsh : Go.IntKind.i64.wrap (1 * 2 ^ min (j : Int).toNat 64) = (pw : Int) := by
            rw [Int.toNat_natCast, show min j 64 = j by omega, Int.one_mul, IntKind.wrap_i64, hcast]
            omega
          have hsh2 : Go.IntKind.i64.wrap (2 ^ j) = (pw : Int) := by rw [IntKind.wrap_i64, hcast]; omega
          have hwp := tcode_wrap pw hpb
          have hsh3 : wrap64 (2 ^ j) = (pw : Int) := by rw [hcast]; exact hwp
          have HOR := tcode_or (tcode p b j) pw (by rw [hpw] at hkl; exact Nat.lt_trans hkl hpb) hpb
          have HKS := Aside0.mk (show tcode p b (j + 1) = if rd p (j : Int) ≥ b then tcode p b j ||| pw else tcode p b j by simp only [tcode]; rw [hpw])
          obtain ⟨x, hx⟩ : ∃ x, rd p (j : Int) = x := ⟨_, rfl⟩
          rw [hx] at hcj HKS
          have HJL := Aside0.mk cj
          clear hx hkl hpw hl16
          obtain ⟨ks, hks⟩ : ∃ z, tcode p b j = z := ⟨_, rfl⟩
          rw [hks] at HOR HKS ⊢
          by_cases cx : x ≥ b
          · have b0 : decide (b ≤ x) = true := decide_eq_true cx
            have b1 : decide (x ≥ b) = true := decide_eq_true cx
            have HX := Aside0.mk cx
            clear cx
            go_wp2
            go_roundw
            case rel => exact ⟨j + 1, trivial, by go_num, by rw [HKS.out, if_pos HX.out], ⟨HJL.out⟩⟩
            case measure => have := HJL.out; simp [intOf]; omega
          · have b0 : decide (b ≤ x) = false := decide_eq_false cx
            have b1 : decide (x ≥ b) = false := decide_eq_false cx
            have HX := Aside0.mk cx
            clear cx
            go_wp2
            go_roundw
            case rel => exact ⟨j + 1, trivial, by go_num, by rw [HKS.out, if_neg HX.out], ⟨HJL.out⟩⟩
            case measure => have := HJL.out; simp [intOf]; omega
        · have d2 : decide ((j : Int) < (p.length : Int)) = false := decide_eq_false (by omega)
          have d3 : decide (j < p.length) = false := decide_eq_false cj
          have e : j = p.length := by have := HJ.out; omega
          rw [← e] at HTK
          obtain ⟨tc, htc⟩ : ∃ z : Nat, tcode p b j = z := ⟨_, rfl⟩
          have HWF := Aside0.mk (tcode_wf tc (by rw [← htc]; exact Nat.lt_of_lt_of_le hkl (Nat.pow_le_pow_right (n := 2) (by decide) (show j ≤ 17 by omega))))
          rw [htc] at HTK ⊢
          have HCL := Aside0.mk (show (codes ++ tcodes p (bs.take i)).length < maxLen by
            have h1_ := HLEN.out.2
            have h2_ := HBL.out
            rw [List.length_append]; unfold tcodes maxLen
            rw [List.length_map, List.length_take]; omega)
          have hco := (blk_cell HO.out 0).trans (show _ = some (Value.map (some bm)) from rfl)
          clear e cj htc hkl hl16
          go_wp2_with (first | (at_mapUpdate; refine wpList_mapUpdate_own _ rfl _ _ _ 96 rfl 3 4 (Go.Maps.int_keyed Try.underlying3) Try.underlying96 _ bm (codes ++ tcodes p (bs.take i)).length (tdat (codes ++ tcodes p (bs.take i))) rfl HS.out ?mL _ _ (.int .i64 ((tc : Nat) : Int)) rfl rfl (Go.Maps.keyOf_int_mk Try.underlying3 ?mW) (.lit (.bool true)) [] (plainElem_bool Try.underlying4 true) ?_; (case mL => exact HCL.out); (case mW => exact HWF.out); intro w7 hown7 hg7; have n0_ := Aside0.mk (tgrown_blk HG.out hg7 HNE.out.1); have n1_ := Aside0.mk (tgrown_blk HN.out hg7 HNE.out.2.1); have n2_ := Aside0.mk (tgrown_blk HO.out hg7 HNE.out.2.2.1); have n3_ := Aside0.mk (Kd.F_grown HF.out hg7 (fun k_ hk_ e_ => by injection e_ with e_; have := HMB.out; omega)); have n4_ := Aside0.mk (tgrown_below HB.out (below_size HB.out) HNE.out.2.2.2 hg7); have n5_ := Aside0.mk ((by have h1_ := hown7; rw [← tdat_snoc] at h1_; unfold Mset; rw [List.length_append, List.length_singleton]; exact h1_ : Mset w7 bm ((codes ++ tcodes p (bs.take i)) ++ [((tc : Nat) : Int)]))); clear HG HN HO HF HB HS; have HG := n0_; have HN := n1_; have HO := n2_; have HF := n3_; have HB := n4_; have HS := n5_; clear n0_ n1_ n2_ n3_ n4_ n5_; clear hown7 hg7 hco))
          go_roundw
          case rel => exact ⟨i + 1, by go_num, ⟨HIL.out⟩, HG, HN, HO, ⟨by rw [HTK.out, ← List.append_assoc]; exact HS.out⟩, HB, HF⟩
          case measure => have := HIL.out; simp [intOf]; omega
    · have d0 : decide ((i : Int) < (bs.length : Int)) = false := decide_eq_false (by omega)
      have d1 : decide (i < bs.length) = false := decide_eq_false ci
      have e : i = bs.length := by have := HI.out; omega
      have HE := Aside0.mk e
      clear e ci
      go_wp2
      first | go_end0 | ((try simp only [Exit.inBlock, Exit.then]); refine bodyPost_ret (results_none rfl _ _ _) rfl ?_)
      exact ⟨rfl, HG.out, HN.out, HO.out, by have h1 := HS.out; rw [HE.out, List.take_length, HRES.out] at h1; exact h1, HB.out⟩
def impl_tablesOf.all (k : Nat) (n : Nat) : Option (List Int) := (wts 3 n).foldlM (impl_tablesOf.step k (n : Int)) []
/-- What stands between two lists of weights. -/
def impl_tablesOf.Inv (k n : Nat) (w : World) (ds : List (List Int)) (W : World) : Prop := ∃ codes : List Int, ds.foldlM (impl_tablesOf.step k (n : Int)) [] = some codes ∧
  W.heap[w.heap.size]? = some (.cells #[.int .i64 (n : Int)] 3 (0, 0)) ∧ W.heap[w.heap.size + 1 + 1]? = some (.cells #[.map (some (w.heap.size + 1))] 96 (0, 0)) ∧ Mset W (w.heap.size + 1) codes ∧ Below w.heap.size w W
def impl_tablesOf.W3 (n : Nat) (w : World) : World := ((w.alloc (.cells #[.int .i64 (n : Int)] 3)).alloc (.map #[] 0)).alloc (.cells #[.map (some (w.heap.size + 1))] 96)
theorem impl_tablesOf.size3 (n : Nat) (w : World) : (impl_tablesOf.W3 n w).heap.size = w.heap.size + 1 + 1 + 1 := by simp [impl_tablesOf.W3]
theorem impl_tablesOf.start (k n : Nat) (w : World) (cs : Array Value) : impl_tablesOf.Inv k n w [] ((impl_tablesOf.W3 n w).alloc (.cells cs 3)) := by
  refine ⟨[], rfl, blk_alloc (blk_alloc (blk_alloc (blk_new w _) _) _) _, ?_, ?_, below_alloc (below_alloc (below_alloc (below_alloc (Below.refl w.heap.size w) _) _) _) _⟩
  · exact blk_alloc (show (impl_tablesOf.W3 n w).heap[w.heap.size + 1 + 1]? = some (.cells #[.map (some (w.heap.size + 1))] 96 (0, 0)) by simpa [impl_tablesOf.W3] using blk_new ((w.alloc (.cells #[.int .i64 (n : Int)] 3)).alloc (.map #[] 0)) (.cells #[.map (some (w.heap.size + 1))] 96)) _
  · have h1 := World.ownsMap_made (H := Unit) (w.alloc (.cells #[.int .i64 (n : Int)] 3)) Try.prog 3 (plainElem Try.prog 4)
    have h2 := (h1.alloc (.cells #[.map (some (w.heap.size + 1))] 96)).alloc (.cells cs 3)
    have e : (w.alloc (.cells #[.int .i64 (n : Int)] 3)).heap.size = w.heap.size + 1 := by simp
    rw [e] at h2
    exact h2
theorem impl_tablesOf.sets (k n : Nat) (w : World) (ds : List (List Int)) (W : World) (i : Nat) (v : Value) (h : impl_tablesOf.Inv k n w ds W) : impl_tablesOf.Inv k n w ds (W.setCell ⟨w.heap.size + 1 + 1 + 1, i, none⟩ v) := by
  obtain ⟨codes, i1, i2, i3, i4, i5⟩ := h
  exact ⟨codes, i1, blk_far i2 (show w.heap.size ≠ w.heap.size + 1 + 1 + 1 by omega) _, blk_far i3 (show w.heap.size + 1 + 1 ≠ w.heap.size + 1 + 1 + 1 by omega) _, World.ownsMap.setCell i4 (show w.heap.size + 1 ≠ w.heap.size + 1 + 1 + 1 by omega) _, below_set i5 (by omega)⟩
theorem impl_tablesOf.drews (k n : Nat) (w : World) (ds : List (List Int)) (W : World) (h : impl_tablesOf.Inv k n w ds W) : impl_tablesOf.Inv k n w ds W.drew := by
  obtain ⟨codes, i1, i2, i3, i4, i5⟩ := h
  exact ⟨codes, i1, blk_drew i2, blk_drew i3, World.ownsMap.drew i4, below_drew1 i5⟩
theorem impl_tablesOf.steps (k n : Nat) (w : World) (codes : List Int) (hn : n ≤ 8) (hs : impl_tablesOf.all k n = some codes) (i : Nat) (v : List Int) (W : World) (hv : (wts 3 n)[i]? = some v) (h : impl_tablesOf.Inv k n w ((wts 3 n).take i) W)
    (hr : W.heap[w.heap.size + 1 + 1 + 1]? = some (row3 v)) :
    Calls Try.prog 138 (#[.slice (some ⟨w.heap.size + 1 + 1 + 1, 0, none⟩) n n] ++ #[.pointer (some ⟨w.heap.size, 0, none⟩), .pointer (some ⟨w.heap.size + 1 + 1, 0, none⟩)]) W fun e W' =>
      e = .returned (.tuple #[]) ∧ impl_tablesOf.Inv k n w ((wts 3 n).take (i + 1)) W' ∧ W'.heap[w.heap.size + 1 + 1 + 1]? = W.heap[w.heap.size + 1 + 1 + 1]? := by
  obtain ⟨c1, i1, i2, i3, i4, i5⟩ := h
  have hvl := wts_len 3 n v (List.mem_of_getElem? hv)
  subst hvl
  obtain ⟨c2, hc2⟩ := foldlM_pre _ _ (i + 1) _ _ hs
  have hc3 := hc2
  rw [foldlM_take _ _ i v _ hv, i1] at hc3
  refine (impl_tablesOf.one k v c1 c2 _ _ _ _ w W hn hr i2 i3 i4 i5 (by omega) (by omega) (by omega) (by omega) hc3).mono ?_
  rintro e W' ⟨rfl, j1, j2, j3, j4, j5⟩
  exact ⟨rfl, ⟨c2, hc2, j2, j3, j4, j5⟩, j1.trans hr.symm⟩
theorem impl_tablesOf.walks (k n : Nat) (w : World) (codes : List Int) (hn : n ≤ 8) (hs : impl_tablesOf.all k n = some codes) :
    Calls Try.prog 110 #[.int .i64 (n : Int), .int .i64 3, .func (.func 138) #[] #[.pointer (some ⟨w.heap.size, 0, none⟩), .pointer (some ⟨w.heap.size + 1 + 1, 0, none⟩)]] (((w.alloc (.cells #[.int .i64 (n : Int)] 3)).alloc (.map #[] 0)).alloc (.cells #[.map (some (w.heap.size + 1))] 96)) fun e w' => e = .returned (.tuple #[]) ∧ impl_tablesOf.Inv k n w (wts 3 n) w' := by
  have hz := impl_tablesOf.size3 n w
  refine smallWeights_calls n 3 hn (by decide) 138 Try.f138 Try.func138 (by kernel_rfl) rfl _ (impl_tablesOf.W3 n w) (impl_tablesOf.Inv k n w) (impl_tablesOf.start k n w) ?_ (impl_tablesOf.drews k n w) ?_
  · rw [hz]; exact impl_tablesOf.sets k n w
  · rw [hz]; exact impl_tablesOf.steps k n w codes hn hs
set_option maxHeartbeats 8000000 in
set_option maxRecDepth 100000 in
theorem impl_tablesOf.calls (k n : Nat) (codes : List Int) (w : World) (hn : n ≤ 8) (hs : impl_tablesOf.all k n = some codes) :
    Calls Try.prog 95 #[.int .i64 (n : Int), .int .i64 3] w fun e w' => e = .returned (.map (some (w.heap.size + 1))) ∧ Mset w' (w.heap.size + 1) codes ∧ Below w.heap.size w w' := by
  have HS := Aside0.mk hs
  clear hs
  have hmm := @run_makeMap Try.prog
  go_enter Try.func95, Try.ntmps95
  go_wp2_with (first | (go_at_call 110; (with_reducible refine (impl_tablesOf.walks k n w codes hn HS.out).mono ?_); rintro e w5 ⟨rfl, hi⟩; obtain ⟨c2, i1, i2, i3, i4, i5⟩ := hi; have e_ : codes = c2 := Option.some.inj (HS.out.symm.trans i1); subst e_; have J4 := Aside0.mk i4; have J5 := Aside0.mk i5; have hco := (blk_cell i3 0).trans (show _ = some (Value.map (some (w.heap.size + 1))) from rfl); clear i1 i2 i3 i4 i5))
  go_ret
  exact ⟨rfl, J4.out, J5.out⟩
theorem impl_tablesOf.all_mono (n k : Nat) : LeO (impl_tablesOf.all k n) (impl_tablesOf.all (k + 1) n) := by
  unfold impl_tablesOf.all
  refine foldlM_mono (fun s v => ?_) _ _
  unfold impl_tablesOf.step
  exact LeO.bind (impl_productsOf.mono _ _ k) fun _ => LeO.refl _

end Go.Proofs.Ythfkgbkhkahmdaa.PFnCountThresholds
