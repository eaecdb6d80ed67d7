-- Laid for this claim by a program of the session's own (wip/tool/myprint.py).
import Derived.Test.YtmfmgnpefjmieaaMFnTablesx0
namespace Go.Proofs.Ytmfmgnpefjmieaa.PFnTables
open Go.RowKit Go.Proofs.YtmfmgnpefjmieaaW.PrintWords Go.Proofs.YtmfmgnpefjmieaaW.PrintLast Go.Proofs.YtmfmgnpefjmieaaW.PrintMore
attribute [local go_sem] max2_int min2_int max_two min_two max_three min_three max_four min_four
set_option linter.unusedVariables false
set_option maxHeartbeats 8000000
set_option maxRecDepth 100000
set_option linter.unusedSimpArgs false
def laws_vBig.f (l0 : List Int) : Option (Bool) := some (decide ((l0.length : Int) > 65536))
theorem laws_vBig.calls (A0 : Option Addr) (c0 : Nat) (l0 : List Int) (r : Bool) (w : World) (hr0 : Kd.C (Kd.int .u8) w A0 l0.length l0) (hc0 : l0.length ≤ c0) (h : laws_vBig.f l0 = some r) :
    Calls Try.prog 7 #[.slice A0 l0.length c0] w fun e w' => e = .returned (.bool r) ∧ Drawn0 w w' := by
  have HR0 := aM hr0; have HC0 := aM hc0; clear hr0 hc0; have H : (some (decide ((l0.length : Int) > 65536))) = some r := h; clear h; obtain rfl := Option.some.inj H; go_enter Try.func7, Try.ntmps7; go_wp2; go_ret; exact ⟨yZ, yDn⟩
def impl_within.f (a0 : Int) (a1 : Int) (a2 : Int) : Option (Bool) := if a0 ≥ a1 then (some (decide (a0 ≤ a2))) else (some false)
theorem impl_within.calls (a0 : Int) (a1 : Int) (a2 : Int) (r : Bool) (w : World) (h : impl_within.f a0 a1 a2 = some r) :
    Calls Try.prog 109 #[.int .i64 a0, .int .i64 a1, .int .i64 a2] w fun e w' => e = .returned (.bool r) ∧ Drawn0 w w' := by
 have H : (if a0 ≥ a1 then (some (decide (a0 ≤ a2))) else (some false)) = some r := h; clear h; obtain ⟨c4, -, H⟩ | ⟨c4, -, H⟩ := yif H
 ·
  have c4b0 : decide (a1 ≤ a0) = true := decide_eq_true c4; clear c4; obtain rfl := Option.some.inj H; go_enter Try.func109, Try.ntmps109; go_wp2; go_ret; exact ⟨yZ, yDn⟩
 have c4b0 : decide (a1 ≤ a0) = false := decide_eq_false c4; clear c4; obtain rfl := Option.some.inj H; go_enter Try.func109, Try.ntmps109; go_wp2; go_ret; exact ⟨yZ, yDn⟩
def impl_allWithin.l0 : Nat → Int → Int → List Int → Int → Int → Option (Bool)
  | 0, _, _, _, _, _ => none
  | k + 1, x1, x2, x9, x10, x11 => if x11 < x10 then (if 0 ≤ x11 then (if x11 < (x9.length : Int) then ((impl_within.f (rd x9 x11) x1 x2).bind fun t102 => (if t102 = true then (impl_allWithin.l0 k x1 x2 x9 x10 (wrap64 (x11 + 1))) else (some false))) else (none)) else (none)) else (some true)
def impl_allWithin.f (k : Nat) (l0 : List Int) (a1 : Int) (a2 : Int) : Option (Bool) := impl_allWithin.l0 k a1 a2 l0 (l0.length : Int) 0
theorem impl_allWithin.calls (k : Nat) (A0 : Option Addr) (c0 : Nat) (l0 : List Int) (a1 : Int) (a2 : Int) (r : Bool) (w : World) (hr0 : Kd.C (Kd.int .i64) w A0 l0.length l0) (hc0 : l0.length ≤ c0) (h : impl_allWithin.f k l0 a1 a2 = some r) :
    Calls Try.prog 88 #[.slice A0 l0.length c0, .int .i64 a1, .int .i64 a2] w fun e w' => e = .returned (.bool r) ∧ Drawn0 w w' := by
 have HR0 := aM hr0; have HC0 := aM hc0; clear hr0 hc0; have H : (impl_allWithin.l0 k a1 a2 l0 (l0.length : Int) 0) = some r := h; clear h; have H' := aM H; clear H; go_enter Try.func88, Try.ntmps88; go_wp2; go_loopg [11] k (fun kq v11 w' => ∃ (x11_1 : Int), v11 = .int .i64 x11_1 ∧ Aside0 (impl_allWithin.l0 kq a1 a2 l0 (l0.length : Int) x11_1 = some r) ∧ Aside0 (kq ≤ k) ∧ Drawn0 w w'); case atStart => exact ⟨(0), yZ, H', ⟨Nat.le_refl _⟩, yDn⟩
 case round =>
  clear H'; obtain ⟨x11_1, rfl, HA, HK1, ⟨m1, rfl⟩⟩ := hrel; cases gk with
  | zero => exact absurd HA.out (by simp [impl_allWithin.l0])
  | succ k1 =>
   have H := HA.out; clear HA; simp only [impl_allWithin.l0] at H; obtain ⟨-, c4b0, H⟩ | ⟨-, c4b0, H⟩ := yif H
   rotate_left
   ·
    obtain rfl := Option.some.inj H; go_wp2; go_ret; exact ⟨yZ, yDn⟩
   obtain ⟨-, c5b0, H⟩ | ⟨c5, -, H⟩ := yif H
   rotate_left
   · exact absurd H (by simp)
   obtain ⟨-, c6b0, H⟩ | ⟨c6, -, H⟩ := yif H
   rotate_left
   · exact absurd H (by simp)
   replace H := oA H; obtain ⟨t102, A7, H⟩ := H; by_cases c8 : t102 = true
   rotate_left
   ·
    replace c8 := Bool.eq_false_iff.mpr c8; subst c8; rw [if_neg (show ¬ (false = true) by decide)] at H; obtain rfl := Option.some.inj H; obtain ⟨ad101, e101, hx101_0, p101, q101⟩ := yi HR0.out x11_1; cases e101
    go_wp2_with (first | (refine yL 18 Try.func109 #[.int .i64 (rd l0 x11_1), .int .i64 a1, .int .i64 a2] ?_; (with_reducible refine (impl_within.calls (rd l0 x11_1) a1 a2 false _ A7.out).mono ?_); rintro e w' ⟨rfl, ⟨nd, rfl⟩⟩; refine ⟨_, rfl, ?_⟩)); go_ret; exact ⟨yZ, yDn⟩
   subst c8; rw [if_pos rfl] at H; have H' := aM H; clear H; obtain ⟨ad101, e101, hx101_0, p101, q101⟩ := yi HR0.out x11_1; cases e101
   go_wp2_with (first | (refine yL 18 Try.func109 #[.int .i64 (rd l0 x11_1), .int .i64 a1, .int .i64 a2] ?_; (with_reducible refine (impl_within.calls (rd l0 x11_1) a1 a2 true _ A7.out).mono ?_); rintro e w' ⟨rfl, ⟨nd, rfl⟩⟩; refine ⟨_, rfl, ?_⟩)); go_roundg k1; case measure => have := HK1.out; omega
   case rel => exact ⟨(wrap64 (x11_1 + 1)), yZ, H', ⟨by have := HK1.out; omega⟩, yDn⟩
def impl_isTable.f (k : Nat) (a0 : Int) (l1 : List Int) : Option (Bool) := (impl_within.f a0 0 4).bind fun t103 => (if t103 = true then (if 0 ≤ a0 then (if (l1.length : Int) = (shl .i64 1 a0) then ((impl_allWithin.f k l1 0 1).bind fun t104 => (some t104)) else (some false)) else (none)) else (some false))
theorem impl_isTable.calls (k : Nat) (a0 : Int) (A1 : Option Addr) (c1 : Nat) (l1 : List Int) (r : Bool) (w : World) (hr1 : Kd.C (Kd.int .i64) w A1 l1.length l1) (hc1 : l1.length ≤ c1) (h : impl_isTable.f k a0 l1 = some r) :
    Calls Try.prog 74 #[.int .i64 a0, .slice A1 l1.length c1] w fun e w' => e = .returned (.bool r) ∧ Drawn0 w w' := by
 have HR1 := aM hr1; have HC1 := aM hc1; clear hr1 hc1; have H : ((impl_within.f a0 0 4).bind fun t103 => (if t103 = true then (if 0 ≤ a0 then (if (l1.length : Int) = (shl .i64 1 a0) then ((impl_allWithin.f k l1 0 1).bind fun t104 => (some t104)) else (some false)) else (none)) else (some false))) = some r := h; clear h; replace H := oA H; obtain ⟨t103, A3, H⟩ := H; by_cases c4 : t103 = true
 rotate_left
 ·
  replace c4 := Bool.eq_false_iff.mpr c4; subst c4; rw [if_neg (show ¬ (false = true) by decide)] at H; obtain rfl := Option.some.inj H; go_enter Try.func74, Try.ntmps74; go_wp2_with (first | (refine yL 6 Try.func109 #[.int .i64 a0, .int .i64 0, .int .i64 4] ?_; (with_reducible refine (impl_within.calls a0 0 4 false _ A3.out).mono ?_); rintro e w' ⟨rfl, ⟨nd, rfl⟩⟩; refine ⟨_, rfl, ?_⟩)); go_ret; exact ⟨yZ, yDn⟩
 subst c4; rw [if_pos rfl] at H; obtain ⟨c5, -, H⟩ | ⟨c5, -, H⟩ := yif H
 rotate_left
 · exact absurd H (by simp)
 have c5b0 := eq_true c5; have c5b1 : decide (0 ≤ a0) = true := decide_eq_true c5; clear c5; obtain ⟨ji6, hji6⟩ := yJ ((shl .i64 1 a0)); (first | rw [hji6] at H | simp only [hji6] at H); (try rw [hji6] at A3); have hji6_ : (IntKind.i64.wrap (1 * 2 ^ min a0.toNat 64)) = ji6 := hji6; have hji6z : a0 ≤ 64 → (IntKind.i64.wrap (1 * 2 ^ a0.toNat)) = ji6 := shl_small hji6; have hji6u : (IntKind.i64.wrap (2 ^ min a0.toNat 64)) = ji6 := by have h_ := hji6_; rw [Int.one_mul] at h_; exact h_
 have hji6v : a0 ≤ 64 → (IntKind.i64.wrap (2 ^ a0.toNat)) = ji6 := fun hle_ => by have h_ := hji6z hle_; rw [Int.one_mul] at h_; exact h_
 have hji6y : (wrap64 (1 * 2 ^ min a0.toNat 64)) = ji6 := (i64_w _).symm.trans hji6_; have hji6x : a0 ≤ 64 → (wrap64 (1 * 2 ^ a0.toNat)) = ji6 := fun h_ => (i64_w _).symm.trans (hji6z h_); obtain ⟨c7, -, H⟩ | ⟨c7, -, H⟩ := yif H
 rotate_left
 ·
  have c7b0 : ((l1.length : Int) == (ji6)) = false := beq_eq_false_iff_ne.mpr c7; have c7b1 : ((l1.length : Int) != (ji6)) = true := bne_iff_ne.mpr c7; obtain rfl := Option.some.inj H; go_enter Try.func74, Try.ntmps74; go_wp2_with (first | (refine yL 6 Try.func109 #[.int .i64 a0, .int .i64 0, .int .i64 4] ?_; (with_reducible refine (impl_within.calls a0 0 4 true _ A3.out).mono ?_); rintro e w' ⟨rfl, ⟨nd, rfl⟩⟩; refine ⟨_, rfl, ?_⟩)); go_ret; exact ⟨by first | rfl | (simp; done) | (simp only [← hji6] <;> (first | rfl | simp)) | (simp [*]; done), yDn⟩
 have c7b0 : ((l1.length : Int) == (ji6)) = true := beq_iff_eq.mpr c7; have c7b1 : ((l1.length : Int) != (ji6)) = false := bne_eq_false_iff_eq.mpr c7; clear c7; replace H := oA H; obtain ⟨t104, A8, H⟩ := H; obtain rfl := Option.some.inj H; go_enter Try.func74, Try.ntmps74; go_wp2_with (first | (refine yL 6 Try.func109 #[.int .i64 a0, .int .i64 0, .int .i64 4] ?_; (with_reducible refine (impl_within.calls a0 0 4 true _ A3.out).mono ?_); rintro e w' ⟨rfl, ⟨nd, rfl⟩⟩; refine ⟨_, rfl, ?_⟩) | (go_at_call 88; (with_reducible refine (impl_allWithin.calls k _ _ l1 0 1 t104 _ (xC HR1.out) HC1.out A8.out).mono ?_); rintro e w' ⟨rfl, ⟨nd, rfl⟩⟩)); go_ret; exact ⟨by first | rfl | (simp; done) | (simp only [← hji6] <;> (first | rfl | simp)) | (simp [*]; done), yDn⟩
def wfrom (L : List (List Int)) : Nat → Int → List (List Int)
  | 0, _ => []
  | c + 1, x => L.map (fun v => x :: v) ++ wfrom L c (x + 1)
def wts (m : Nat) : Nat → List (List Int)
  | 0 => [[]]
  | n + 1 => wfrom (wts m n) (2 * m + 1) (-(m : Int))
def wnext (m : Nat) : List Int → Option (List Int)
  | [] => none
  | x :: v => match wnext m v with
    | some v' => some (x :: v')
    | none => if x = (m : Int) then none else some ((x + 1) :: v.map fun _ => -(m : Int))
theorem wfrom_mem (L : List (List Int)) : ∀ c x v, v ∈ wfrom L c x ↔ ∃ d : Nat, d < c ∧ ∃ u, u ∈ L ∧ v = (x + d) :: u := by
  intro c
  induction c with
  | zero => intro x v; simp [wfrom]
  | succ c ih =>
    intro x v; simp only [wfrom, List.mem_append, List.mem_map, ih]; constructor
    · rintro (⟨u, hu, rfl⟩ | ⟨d, hd, u, hu, rfl⟩)
      · exact ⟨0, by omega, u, hu, by simp⟩
      · exact ⟨d + 1, by omega, u, hu, by congr 1; omega⟩
    · rintro ⟨d, hd, u, hu, rfl⟩; cases d with
      | zero => exact .inl ⟨u, hu, by simp⟩
      | succ d => exact .inr ⟨d, by omega, u, hu, by congr 1; omega⟩
theorem wfrom_length (L : List (List Int)) : ∀ c x, (wfrom L c x).length = c * L.length := by
  intro c
  induction c with
  | zero => intro x; simp [wfrom]
  | succ c ih => intro x; simp only [wfrom, List.length_append, List.length_map, ih, Nat.succ_mul]; omega
theorem wts_len (m : Nat) : ∀ n, ∀ v ∈ wts m n, v.length = n := by
  intro n
  induction n with
  | zero => intro v hv; simp [wts] at hv; subst hv; rfl
  | succ n ih =>
    intro v hv; obtain ⟨d, _, u, hu, rfl⟩ := (wfrom_mem _ _ _ _).1 hv; simp [ih u hu]
theorem wts_bd (m : Nat) : ∀ n, ∀ v ∈ wts m n, ∀ x ∈ v, -(m : Int) ≤ x ∧ x ≤ m := by
  intro n
  induction n with
  | zero => intro v hv; simp [wts] at hv; subst hv; intro x hx; simp at hx
  | succ n ih =>
    intro v hv x hx; obtain ⟨d, hd, u, hu, rfl⟩ := (wfrom_mem _ _ _ _).1 hv; rcases List.mem_cons.1 hx with rfl | hx
    · omega
    · exact ih u hu x hx
theorem wts_length (m : Nat) : ∀ n, (wts m n).length = (2 * m + 1) ^ n := by
  intro n
  induction n with
  | zero => rfl
  | succ n ih => simp only [wts, wfrom_length, ih, Nat.pow_succ, Nat.mul_comm]
theorem wts_head (m : Nat) : ∀ n, (wts m n)[0]? = some (List.replicate n (-(m : Int))) := by
  intro n
  induction n with
  | zero => rfl
  | succ n ih => simp only [wts, wfrom]; rw [List.getElem?_append_left (by rw [List.length_map, wts_length]; exact Nat.pow_pos (by omega)), List.getElem?_map, ih]; rfl
theorem wnext_chain (m n : Nat) (L : List (List Int)) (h0 : L[0]? = some (List.replicate n (-(m : Int)))) (hl : ∀ v ∈ L, v.length = n) (hc : ∀ i v, L[i]? = some v → wnext m v = L[i + 1]?) :
    ∀ (c : Nat) (x : Int), x + c = m + 1 → ∀ i v, (wfrom L c x)[i]? = some v → wnext m v = (wfrom L c x)[i + 1]? := by
  intro c
  induction c with
  | zero => intro x _ i v h; simp [wfrom] at h
  | succ c ih =>
    intro x hx i v h; simp only [wfrom] at h ⊢; have hL : (L.map fun v => x :: v).length = L.length := by simp
    rcases Nat.lt_or_ge i L.length with hi | hi
    · rw [List.getElem?_append_left (by rw [hL]; exact hi), List.getElem?_map, List.getElem?_eq_getElem hi] at h; simp only [Option.map_some, Option.some.injEq] at h; subst h; have hn := hc i _ (List.getElem?_eq_getElem hi); simp only [wnext]; rcases Nat.lt_or_ge (i + 1) L.length with hj | hj
      · rw [List.getElem?_eq_getElem hj] at hn; rw [hn, List.getElem?_append_left (by rw [hL]; exact hj), List.getElem?_map, List.getElem?_eq_getElem hj]; rfl
      · rw [List.getElem?_eq_none hj] at hn; rw [hn, List.getElem?_append_right (by rw [hL]; exact hj), hL, show i + 1 - L.length = 0 by omega]; simp only; cases c with
        | zero => simp [wfrom]; omega
        | succ c =>
          rw [if_neg (by omega)]; simp only [wfrom]; have hl0 : 0 < L.length := by omega
          rw [List.getElem?_append_left (by simp; omega), List.getElem?_map, h0]; have := hl _ (List.getElem_mem hi); simp only [Option.map_some, List.map_const', this]
    · rw [List.getElem?_append_right (by rw [hL]; exact hi), hL] at h; rw [List.getElem?_append_right (by rw [hL]; omega), hL, show i + 1 - L.length = i - L.length + 1 by omega]; exact ih (x + 1) (by omega) _ v h
theorem wts_next (m : Nat) : ∀ n i v, (wts m n)[i]? = some v → wnext m v = (wts m n)[i + 1]? := by
  intro n
  induction n with
  | zero => intro i v h; cases i with
    | zero => simp [wts] at h; subst h; rfl
    | succ i => simp [wts] at h
  | succ n ih => exact wnext_chain m n _ (wts_head m n) (wts_len m n) ih _ _ (by omega)
theorem wnext_some (m : Nat) : ∀ (v : List Int) (i : Nat), i < v.length → v.getD i 0 ≠ m → (∀ j, i < j → j < v.length → v.getD j 0 = m) →
    wnext m v = some (v.take i ++ (v.getD i 0 + 1) :: List.replicate (v.length - i - 1) (-(m : Int))) := by
  intro v
  induction v with
  | nil => intro i hi; simp at hi
  | cons x v ih =>
    intro i hi hn ha
    have hnone : ∀ v : List Int, (∀ j, j < v.length → v.getD j 0 = m) → wnext m v = none := by
      intro v
      induction v with
      | nil => intro _; rfl
      | cons y v ihv =>
        intro h; simp only [wnext]; rw [ihv (fun j hj => by simpa using h (j + 1) (by simpa using hj))]; have := h 0 (by simp); simp at this; simp [this]
    cases i with
    | zero =>
      simp only [wnext]; rw [hnone v (fun j hj => by simpa using ha (j + 1) (by omega) (by simpa using hj))]; simp at hn; simp [hn, List.map_const']
    | succ i =>
      simp only [wnext]; rw [ih i (by simpa using hi) (by simpa using hn) (fun j h1 h2 => by simpa using ha (j + 1) (by omega) (by simpa using h2))]; simp
theorem wnext_none (m : Nat) : ∀ v : List Int, (∀ j, j < v.length → v.getD j 0 = m) → wnext m v = none := by
  intro v
  induction v with
  | nil => intro _; rfl
  | cons y v ihv =>
    intro h; simp only [wnext]; rw [ihv (fun j hj => by simpa using h (j + 1) (by simpa using hj))]; have := h 0 (by simp); simp at this; simp [this]
def row3 (xs : List Int) : Obj := .cells (nums .i64 xs).toArray 3 (0, 0)
theorem row3_cell {w : World} {g : Nat} {xs : List Int} (h : w.heap[g]? = some (row3 xs)) (j : Nat) (hj : j < xs.length) : w.cell? ⟨g, j, none⟩ = some (.int .i64 (xs.getD j 0)) := by
  rw [bC h j]; simp [nums, List.getD_eq_getElem?_getD, List.getElem?_eq_getElem hj]
theorem row3_set {w : World} {g : Nat} {xs : List Int} (h : w.heap[g]? = some (row3 xs)) (j : Nat) (x : Int) : (w.setCell ⟨g, j, none⟩ (.int .i64 x)).heap[g]? = some (row3 (xs.set j x)) := by
  rw [blk_set h]; simp [row3, nums, List.map_set]
theorem row3_eq {w : World} {g : Nat} {xs ys : List Int} (h : w.heap[g]? = some (row3 xs)) (e : xs = ys) : w.heap[g]? = some (row3 ys) := e ▸ h
theorem rep_step (j n : Nat) (x : Int) (h : j < n) : (List.replicate j x ++ List.replicate (n - j) 0).set j x = List.replicate (j + 1) x ++ List.replicate (n - (j + 1)) 0 := by
  rw [show n - j = n - (j + 1) + 1 by omega, List.replicate_succ, List.set_append_right _ _ (by simp)]; simp [List.replicate_succ', List.append_assoc]
theorem down_step (v : List Int) (d n : Nat) (x : Int) (hl : v.length = n) (h : d + 1 ≤ n) : (v.take (d + 1) ++ List.replicate (n - (d + 1)) x).set d x = v.take d ++ List.replicate (n - d) x := by
  rw [List.set_append_left _ _ (by simp; omega), show n - d = n - (d + 1) + 1 by omega, List.replicate_succ]
  rw [show (v.take (d + 1)).set d x = v.take d ++ [x] by
    rw [List.take_succ_eq_append_getElem (by omega), List.set_append_right _ _ (by simp; omega)]; simp [show d ≤ v.length by omega]]
  simp
theorem down_at (v : List Int) (d n : Nat) (x : Int) (hl : v.length = n) (h : d + 1 ≤ n) : (v.take (d + 1) ++ List.replicate (n - (d + 1)) x).getD d 0 = v.getD d 0 := by
  rw [List.getD_eq_getElem?_getD, List.getD_eq_getElem?_getD, List.getElem?_append_left (by simp; omega), List.getElem?_take_of_lt (by omega)]
theorem smallWeights_calls (n m : Nat) (hn : n ≤ 8) (hm : m ≤ 9) (G : FuncId) (fn : Func) (hG : Try.prog.funcs[G]? = some fn) (hname : (fn.name == "runtime.NumGoroutine") = false) (hbody : fn.body.isSome = true) (caps : Array Value) (w : World)
    (Inv : List (List Int) → World → Prop) (h0 : ∀ cs, Inv [] (w.alloc (.cells cs 3))) (hset : ∀ ds W i v, Inv ds W → Inv ds (W.setCell ⟨w.heap.size, i, none⟩ v)) (hdrew : ∀ ds W, Inv ds W → Inv ds W.drew)
    (hstep : ∀ (i : Nat) (v : List Int) (W : World), (wts m n)[i]? = some v → Inv ((wts m n).take i) W → W.heap[w.heap.size]? = some (row3 v) →
      Calls Try.prog G (#[.slice (some ⟨w.heap.size, 0, none⟩) n n] ++ caps) W fun e W' => e = .returned (.tuple #[]) ∧ Inv ((wts m n).take (i + 1)) W' ∧ W'.heap[w.heap.size]? = W.heap[w.heap.size]?) :
    Calls Try.prog 128 #[.int .i64 (n : Int), .int .i64 (m : Int), .func (.func G) #[] caps] w fun e w' => e = .returned (.tuple #[]) ∧ Inv (wts m n) w' := by
 have hmk := print_make (P := Try.prog) 24 3 .i64 8 Try.underlying24 info3 (by decide) n (by omega); have H0 := aM h0; have HSet := aM hset; have HDrew := aM hdrew; have HStep := aM hstep; clear h0 hset hdrew hstep; go_enter Try.func128, Try.ntmps128; go_wp2; go_loopw [7, 13] (fun v7 v13 w' => ∃ j : Nat, v13 = .int .i64 (j : Int) ∧ Aside0 (j ≤ n) ∧ Aside0 (w'.heap[w.heap.size]? = some (row3 (List.replicate j (-(m : Int)) ++ List.replicate (n - j) 0))) ∧ Aside0 (Inv [] w')) (fun _ v13 _ => n - (intOf v13).toNat); case atStart => exact ⟨0, rfl, ⟨Nat.zero_le _⟩, ⟨by rw [heap_alloc_new]; refine congrArg (fun x => some (Obj.cells x 3 (0, 0))) ?_; apply Array.ext <;> simp [nums, madeCells, Nat.mod_one]⟩, ⟨H0.out _⟩⟩
 case round =>
  obtain ⟨j, rfl, HJ, HR, HI⟩ := hrel; by_cases c : j < n
  ·
   have c0 : decide ((j : Int) < (n : Int)) = true := decide_eq_true (by omega); have c1 : decide (j < n) = true := decide_eq_true c; have HC := aM c; have hjn : (j : Int) ≤ 1048576 := by have := HC.out; omega
   have h0j : (0 : Int) ≤ (j : Int) := by omega
   have hfr : ∀ i, wr.frozen? ⟨w.heap.size, i, none⟩ = false := fun i => bF HR.out i
   have hcl : wr.cell? ⟨w.heap.size, j, none⟩ = some (.int .i64 0) := by
    rw [row3_cell HR.out j (by have := HC.out; simp; omega)]; simp [List.getD_eq_getElem?_getD, List.getElem?_append_right, show 0 < n - j by have := HC.out; omega]
   go_wp2; go_roundw; case rel => exact ⟨j + 1, by go_num, ⟨by have := HC.out; omega⟩, ⟨row3_eq (row3_set HR.out j _) (by have e1 : wrap64 (-(m : Int)) = -(m : Int) := (by unfold wrap64; omega); (try rw [e1]); exact rep_step j n _ HC.out)⟩, ⟨HSet.out _ _ _ _ HI.out⟩⟩
   case measure => have := HC.out; simp [intOf]; omega
  ·
   have c0 : decide ((j : Int) < (n : Int)) = false := decide_eq_false (by omega); have c1 : decide (j < n) = false := decide_eq_false c; have e : j = n := by have := HJ.out; omega
   subst e; have HR1 := row3_eq HR.out (show List.replicate j (-(m : Int)) ++ List.replicate (j - j) 0 = List.replicate j (-(m : Int)) by simp); have HRR := aM HR1; clear HR HR1 c; go_wp2; go_loopg [8] (wts m j).length (fun kq v8 w' => ∃ (i : Nat) (v : List Int), Aside0 ((wts m j)[i]? = some v) ∧ Aside0 (kq + i = (wts m j).length) ∧ Aside0 (w'.heap[w.heap.size]? = some (row3 v)) ∧ Aside0 (Inv ((wts m j).take i) w')); case atStart => exact ⟨0, _, ⟨wts_head m j⟩, ⟨rfl⟩, HRR, HI⟩
   case round =>
    clear HRR HI; obtain ⟨i, v, HV, HK, HR, HI⟩ := hrel; have hE := fun args W => enters_ hG hname hbody args W; have hvl := wts_len m j v (List.mem_of_getElem? HV.out); have hil := (List.getElem?_eq_some_iff.1 HV.out).1; cases gk with
    | zero => have := HK.out; omega
    | succ k1 =>
    have HIL := aM hil; clear hil; go_wp2_with (first | ((with_reducible refine (HStep.out i v _ HV.out HI.out HR.out).mono ?_); rintro e w2 ⟨rfl, hi2, hb2⟩; have HI := aM hi2; have HR := aM (hb2.trans HR.out))); go_loopw [8] (fun v8 w' => ∃ d : Nat, v8 = .int .i64 ((d : Int) - 1) ∧ Aside0 (d ≤ j) ∧ Aside0 (∀ x, d ≤ x → x < j → v.getD x 0 = m) ∧ Aside0 (w'.heap[w.heap.size]? = some (row3 (v.take d ++ List.replicate (j - d) (-(m : Int))))) ∧ Aside0 (Inv ((wts m j).take (i + 1)) w')) (fun v8 _ => (intOf v8 + 1).toNat); case atStart => exact ⟨j, by go_num, ⟨Nat.le_refl _⟩, ⟨fun x h1 h2 => by omega⟩, ⟨row3_eq HR.out (by simp [List.take_of_length_le (Nat.le_of_eq hvl)])⟩, HI⟩
    case round =>
     clear HR HI; obtain ⟨d, rfl, HD, HM, HR, HI⟩ := hrel; have hd := HD.out; cases d with
     | zero =>
      have hlast : (wts m j).take (i + 1) = wts m j := by
       have h1 := wts_next m j i v HV.out; rw [wnext_none m v (fun x hx => HM.out x (Nat.zero_le _) (by omega))] at h1; exact List.take_of_length_le (List.getElem?_eq_none_iff.1 h1.symm)
      have HL := aM (hlast ▸ HI.out); clear hlast; go_wp2
      ((try simp only [Exit.inBlock, Exit.then]); refine bodyPost_ret (results_none rfl _ _ _) rfl ?_)
      exact ⟨rfl, HL.out⟩
     | succ d =>
      have hfr : ∀ i, wr.frozen? ⟨w.heap.size, i, none⟩ = false := fun i => bF HR.out i
      have hcl : wr.cell? ⟨w.heap.size, d, none⟩ = some (.int .i64 (v.getD d 0)) := by
       rw [row3_cell HR.out d (by simp; omega), down_at v d j _ hvl hd]
      have hj8 : (d : Int) ≤ 8 := by omega
      have hdn : d < j := by omega
      have h0d : (0 : Int) ≤ (d : Int) := by omega
      have hxb := wts_bd m j v (List.mem_of_getElem? HV.out) (v.getD d 0) (by rw [List.getD_eq_getElem?_getD, List.getElem?_eq_getElem (by omega)]; exact List.getElem_mem _); obtain ⟨x, hx⟩ : ∃ x, v.getD d 0 = x := ⟨_, rfl⟩
      rw [hx] at hcl hxb; have HX := aM hx; clear hx; by_cases c : x = (m : Int)
      ·
       have c0 : (x == (m : Int)) = true := beq_iff_eq.mpr c; go_wp2; go_roundw
       case rel =>
        refine ⟨d, by go_num, ⟨by omega⟩, ⟨fun y h1 h2 => ?_⟩, ⟨row3_eq (row3_set HR.out d _) (by have e1 : wrap64 (-(m : Int)) = -(m : Int) := (by unfold wrap64; omega); (try rw [e1]); exact down_step v d j _ hvl hd)⟩, ⟨HSet.out _ _ _ _ HI.out⟩⟩; rcases Nat.lt_or_ge d y with h | h
        · exact HM.out y h h2
        · rw [show y = d by omega, HX.out]; exact c
       case measure => simp [intOf]
      ·
       have c0 : (x == (m : Int)) = false := beq_eq_false_iff_ne.mpr c; have hnx := wts_next m j i v HV.out; rw [wnext_some m v d (by omega) (by rw [HX.out]; exact c) (fun y h1 h2 => HM.out y h1 (by omega)), HX.out] at hnx; have HN := aM hnx.symm; clear hnx; go_wp2; go_roundg k1; case measure => exact Nat.lt_succ_self _
       case rel =>
        refine ⟨i + 1, _, HN, ⟨by have := HK.out; omega⟩, ⟨row3_eq (row3_set HR.out d _) ?_⟩, ⟨HSet.out _ _ _ _ HI.out⟩⟩; have e1 : wrap64 (x + 1) = x + 1 := by unfold wrap64; omega
        (try rw [e1]); rw [List.set_append_left _ _ (by simp; omega), List.take_succ_eq_append_getElem (by omega), List.set_append_right _ _ (by simp; omega)]; simp [show min d j = d by omega, hvl, Nat.sub_sub]
theorem row3_C {w : World} {g : Nat} {xs : List Int} (h : w.heap[g]? = some (row3 xs)) (hl : xs.length ≤ 9223372036854775807) : Kd.C (Kd.int .i64) w (some ⟨g, 0, none⟩) xs.length xs := by
  refine ⟨rfl, hl, fun hp => ⟨_, rfl, fun j p hj => ?_⟩⟩; have hjl := (List.getElem?_eq_some_iff.1 hj).1; refine ⟨[.int .i64 p], rfl, rfl, fun i u hu => ?_⟩; cases i with
  | zero =>
    simp only [List.getElem?_cons_zero, Option.some.injEq] at hu; subst hu; have := row3_cell h j hjl; rw [List.getD_eq_getElem?_getD, hj] at this; show w.cell? ((⟨g, 0, none⟩ : Addr).add (j * 1 + 0)) = _; rw [add_plain, Nat.mul_one, Nat.add_zero]; exact this
  | succ i => simp at hu
theorem Kd.R_new3 {w w1 : World} {v : Value} {xs : List Int} {o1 o2 o3 : Obj} {g1 g2 g3 : Nat} (h : Kd.R (Kd.int .i64) 3 w1 w.heap.size (fun _ => True) v xs) (h1 : w.heap[g1]? = some o1) (h2 : w.heap[g2]? = some o2) (h3 : w.heap[g3]? = some o3) :
    Kd.R (Kd.int .i64) 3 w1 w.heap.size (fun k => k ≠ g1 ∧ k ≠ g2 ∧ k ≠ g3) v xs :=
  rM (Kd.R_bound h) (fun k hk => by
    have e1 := blk_lt h1; have e2 := blk_lt h2; have e3 := blk_lt h3; have := hk.2.1
    exact ⟨by omega, by omega, by omega⟩)
theorem foldlM_take {σ α : Type} (f : σ → α → Option σ) (l : List α) (i : Nat) (x : α) (s : σ) (h : l[i]? = some x) : (l.take (i + 1)).foldlM f s = ((l.take i).foldlM f s).bind fun t => f t x := by
  have hi := (List.getElem?_eq_some_iff.1 h).1; rw [List.take_succ_eq_append_getElem hi, List.foldlM_append, (List.getElem?_eq_some_iff.1 h).2]; cases List.foldlM f s (List.take i l) <;> simp
theorem foldlM_pre {σ α : Type} (f : σ → α → Option σ) (l : List α) (i : Nat) (s r : σ) (h : l.foldlM f s = some r) : ∃ t, (l.take i).foldlM f s = some t := by
  rw [← List.take_append_drop i l, List.foldlM_append] at h; cases e : List.foldlM f s (List.take i l) with
  | none => rw [e] at h; cases h
  | some t => exact ⟨t, rfl⟩
def impl_copied.f (l0 : List Int) : Option (List Int) := (some (([] : List Int) : List Int)).bind fun y105 => (if y105.length + l0.length < 17592186044416 then (some (y105 ++ l0)) else (none))
theorem impl_copied.calls (A0 : Option Addr) (c0 : Nat) (l0 : List Int) (r : List Int) (w : World) (hr0 : Kd.C (Kd.int .i64) w A0 l0.length l0) (hc0 : l0.length ≤ c0) (h : impl_copied.f l0 = some r) :
    Calls Try.prog 113 #[.slice A0 l0.length c0] w fun e w' => ∃ v0_ : Value, e = .returned (v0_) ∧ Kd.R (Kd.int .i64) 3 w' w.heap.size (fun _ => True) v0_ r ∧ Below w.heap.size w w' := by
 have HR0 := aM hr0; have HC0 := aM hc0; clear hr0 hc0; have HB := aM (Below.refl w.heap.size w); have H : ((some (([] : List Int) : List Int)).bind fun y105 => (if y105.length + l0.length < 17592186044416 then (some (y105 ++ l0)) else (none))) = some r := h; clear h; obtain ⟨y105, hy105⟩ := yE (([] : List Int) : List Int); replace H : (if y105.length + l0.length < 17592186044416 then (some (y105 ++ l0)) else (none)) = some r := yI hy105 H; have Ny105 := aM hy105; clear hy105; obtain ⟨c2, -, H⟩ | ⟨c2, -, H⟩ := yif H
 rotate_left
 · exact absurd H (by simp)
 have LMc2 := aM c2; clear c2; obtain ⟨y108, hy108⟩ := yE (y105 ++ l0 : List Int); replace H : (some y108) = some r := yI hy108 H; have Ny108 := aM hy108; clear hy108; obtain rfl := Option.some.inj H; go_enter Try.func113, Try.ntmps113; go_wp2_with (first | ((with_reducible refine gate_dst (N := 3) rfl ?_); refine Kd.R_lit (Kd.int .i64) _ 3 ?hg (N := 3) ?hd (xs := ([] : List Int)) (inner := []) (ok := fun _ => True) (okp := fun _ => True) ?hr ?hp (fun _ hk => hk) trivial (Below.refl _ _) (Nat.le_refl _) (by simp) ?_; (case hd => rfl); (case hg => rfl); (case hr => first | (go_simp; done) | (go_simp; rfl)); (case hp => exact (Reps.none _ _)); intro v106 w3 ho4 hb hg_ hnew_; clear hg_ hnew_; (first | rw [← Ny105.out] at ho4 | (simp only [Int.reduceToNat] at ho4; rw [← Ny105.out] at ho4)); have HO107 := aM (Kd.R_lower ho4 (below_size (xH HB.out))); replace HB := yS0 HB hb; clear hb ho4) | ((with_reducible refine gate_builtin (b := .append) (xs := #[.tmp 3, .tmp 4]) rfl ?_); at_builtin; refine Kd.R_append_rows (Kd.int .i64) (w0 := w) w.heap.size rfl (.tmp 3) (.tmp 4) 24 3 (.int .i64 0) 8 rfl Try.underlying24 info3 rfl (by decide) (by omega) v106 y105 l0 _ _ _ (fun _ => True) (fun _ => False) rfl rfl ?aO ?aR (fun _ _ h => h) (fun _ h => h.elim) ?aF ?aB ?aS ?aL ?_; (case aR => exact xC (Kd.C_below HR0.out HB.out)); (case aB => exact (xH HB.out)); (case aF => exact (fun _ _ => trivial)); (case aO => exact (xR HO107.out)); (case aS => exact (below_size (xH HB.out))); (case aL => have := LMc2.out; omega); intro v109 w5 ho hb hg hat; rw [← Ny108.out] at ho; replace HB := aM (hb); have HO110 := aM (ho); clear HO107; clear ho hb hg hat)); go_ret; exact ⟨_, yF, xR HO110.out, xH HB.out⟩
def impl_gap.l0 : Nat → List Int → Int → Int → List Int → Int → Int → Option (Int × Int)
  | 0, _, _, _, _, _, _ => none
  | k + 1, x1, x6, x7, x10, x11, x12 => if x12 < x11 then (if 0 ≤ x12 then (if x12 < (x10.length : Int) then (if (rd x10 x12) = 1 then (if x12 < (x1.length : Int) then (impl_gap.l0 k x1 (mn x6 (rd x1 x12)) x7 x10 x11 (wrap64 (x12 + 1))) else (none)) else (if x12 < (x1.length : Int) then (impl_gap.l0 k x1 x6 (mx x7 (rd x1 x12)) x10 x11 (wrap64 (x12 + 1))) else (none))) else (none)) else (none)) else (some (x6, x7))
def impl_gap.f (k : Nat) (l0 : List Int) (l1 : List Int) : Option (Int × Int) := impl_gap.l0 k l1 1000000000 (-1000000000) l0 (l0.length : Int) 0
theorem impl_gap.calls (k : Nat) (A0 : Option Addr) (c0 : Nat) (l0 : List Int) (A1 : Option Addr) (c1 : Nat) (l1 : List Int) (r1 : Int) (r2 : Int) (w : World) (hr0 : Kd.C (Kd.int .i64) w A0 l0.length l0) (hc0 : l0.length ≤ c0) (hr1 : Kd.C (Kd.int .i64) w A1 l1.length l1) (hc1 : l1.length ≤ c1) (h : impl_gap.f k l0 l1 = some (r1, r2)) :
    Calls Try.prog 130 #[.slice A0 l0.length c0, .slice A1 l1.length c1] w fun e w' => e = .returned (.tuple #[.int .i64 r1, .int .i64 r2]) ∧ Below w.heap.size w w' := by
 have HR0 := aM hr0; have HC0 := aM hc0; clear hr0 hc0; have HR1 := aM hr1; have HC1 := aM hc1; clear hr1 hc1; have HB := aM (Below.refl w.heap.size w); have H : (impl_gap.l0 k l1 1000000000 (-1000000000) l0 (l0.length : Int) 0) = some (r1, r2) := h; clear h; have H' := aM H; clear H; go_enter Try.func130, Try.ntmps130; go_wp2; go_loopg [6, 7, 12] k (fun kq v6 v7 v12 w' => ∃ (x6_1 : Int) (x7_1 : Int) (x12_1 : Int), v6 = .int .i64 x6_1 ∧ v7 = .int .i64 x7_1 ∧ v12 = .int .i64 x12_1 ∧ Aside0 (impl_gap.l0 kq l1 x6_1 x7_1 l0 (l0.length : Int) x12_1 = some (r1, r2)) ∧ Aside0 (kq ≤ k) ∧ Aside0 (Below w.heap.size w w')); case atStart => exact ⟨(1000000000), ((-1000000000)), (0), yZ, yZ, yZ, H', ⟨Nat.le_refl _⟩, ⟨xH HB.out⟩⟩
 case round =>
  clear H'; try clear c1
  obtain ⟨x6_1, x7_1, x12_1, rfl, rfl, rfl, HA, HK1, HB⟩ := hrel; cases gk with
  | zero => exact absurd HA.out (by simp [impl_gap.l0])
  | succ k1 =>
   have H := HA.out; clear HA; simp only [impl_gap.l0] at H; obtain ⟨-, c3b0, H⟩ | ⟨-, c3b0, H⟩ := yif H
   rotate_left
   ·
    simp only [Option.some.injEq, Prod.mk.injEq] at H; obtain ⟨rfl, rfl⟩ := H; go_wp2; go_ret2; exact ⟨yF, xH HB.out⟩
   obtain ⟨-, c4b0, H⟩ | ⟨c4, -, H⟩ := yif H
   rotate_left
   · exact absurd H (by simp)
   obtain ⟨-, c5b0, H⟩ | ⟨c5, -, H⟩ := yif H
   rotate_left
   · exact absurd H (by simp)
   obtain ⟨c6, -, H⟩ | ⟨c6, -, H⟩ := yif H
   rotate_left
   ·
    have c6b0 : ((rd l0 x12_1) == 1) = false := beq_eq_false_iff_ne.mpr c6; have c6b1 : ((rd l0 x12_1) != 1) = true := bne_iff_ne.mpr c6; obtain ⟨-, c9b0, H⟩ | ⟨c9, -, H⟩ := yif H
    rotate_left
    · exact absurd H (by simp)
    obtain ⟨ji10, hji10⟩ := yJ ((mx x7_1 (rd l1 x12_1))); (first | rw [hji10] at H | simp only [hji10] at H); have hji10_ : (if x7_1 < (rd l1 x12_1) then (rd l1 x12_1) else x7_1) = ji10 := hji10; have H' := aM H; clear H; obtain ⟨ad111, e111, hx111_0, p111, q111⟩ := yi HR0.out x12_1; cases e111
    replace hx111_0 := yc HB hx111_0; obtain ⟨ad113, e113, hx113_0, p113, q113⟩ := yi HR1.out x12_1; cases e113
    replace hx113_0 := yc HB hx113_0; go_wp2; go_roundg k1; case measure => have := HK1.out; omega
    case rel => exact ⟨(x6_1), (ji10), (wrap64 (x12_1 + 1)), yZ, (by first | rfl | (simp; done) | (simp only [← hji10] <;> (first | rfl | simp)) | (simp [*]; done)), yZ, H', ⟨by have := HK1.out; omega⟩, ⟨xH HB.out⟩⟩
   have c6b0 : ((rd l0 x12_1) == 1) = true := beq_iff_eq.mpr c6; have c6b1 : ((rd l0 x12_1) != 1) = false := bne_eq_false_iff_eq.mpr c6; clear c6; obtain ⟨-, c7b0, H⟩ | ⟨c7, -, H⟩ := yif H
   rotate_left
   · exact absurd H (by simp)
   obtain ⟨ji8, hji8⟩ := yJ ((mn x6_1 (rd l1 x12_1))); (first | rw [hji8] at H | simp only [hji8] at H); have hji8_ : (if (rd l1 x12_1) < x6_1 then (rd l1 x12_1) else x6_1) = ji8 := hji8; have H' := aM H; clear H; obtain ⟨ad111, e111, hx111_0, p111, q111⟩ := yi HR0.out x12_1; cases e111
   replace hx111_0 := yc HB hx111_0; obtain ⟨ad112, e112, hx112_0, p112, q112⟩ := yi HR1.out x12_1; cases e112
   replace hx112_0 := yc HB hx112_0; go_wp2; go_roundg k1; case measure => have := HK1.out; omega
   case rel => exact ⟨(ji8), (x7_1), (wrap64 (x12_1 + 1)), (by first | rfl | (simp; done) | (simp only [← hji8] <;> (first | rfl | simp)) | (simp [*]; done)), yZ, yZ, H', ⟨by have := HK1.out; omega⟩, ⟨xH HB.out⟩⟩
def impl_bitPoint.l0 : Nat → Int → List Int → Int → Int → Option (List Int)
  | 0, _, _, _, _ => none
  | k + 1, x1, x5, x8, x9 => if x9 < x8 then (if 0 ≤ x9 then (if x5.length < 17592186044416 then (impl_bitPoint.l0 k x1 (x5 ++ [Go.bits .and .i64 (shr .i64 x1 x9) 1]) x8 (wrap64 (x9 + 1))) else (none)) else (none)) else (some x5)
def impl_bitPoint.f (k : Nat) (a0 : Int) (a1 : Int) : Option (List Int) := impl_bitPoint.l0 k a1 (([] : List Int)) a0 0
theorem impl_bitPoint.calls (k : Nat) (a0 : Int) (a1 : Int) (r : List Int) (w : World) (h : impl_bitPoint.f k a0 a1 = some r) :
    Calls Try.prog 90 #[.int .i64 a0, .int .i64 a1] w fun e w' => ∃ v0_ : Value, e = .returned (v0_) ∧ Kd.R (Kd.int .i64) 3 w' w.heap.size (fun _ => True) v0_ r ∧ Below w.heap.size w w' := by
 have HB := aM (Below.refl w.heap.size w); have H : (impl_bitPoint.l0 k a1 (([] : List Int)) a0 0) = some r := h; clear h; obtain ⟨y114, hy114⟩ := yE (([] : List Int) : List Int); replace H : (impl_bitPoint.l0 k a1 y114 a0 0) = some r := yI hy114 H; have Ny114 := aM hy114; clear hy114; have H' := aM H; clear H; go_enter Try.func90, Try.ntmps90; go_wp2_with (first | ((with_reducible refine gate_dst (N := 7) rfl ?_); refine Kd.R_lit (Kd.int .i64) _ 3 ?hg (N := 7) ?hd (xs := ([] : List Int)) (inner := []) (ok := fun _ => True) (okp := fun _ => True) ?hr ?hp (fun _ hk => hk) trivial (Below.refl _ _) (Nat.le_refl _) (by simp) ?_; (case hd => rfl); (case hg => rfl); (case hr => first | (go_simp; done) | (go_simp; rfl)); (case hp => exact (Reps.none _ _)); intro v115 w3 ho4 hb hg_ hnew_; clear hg_ hnew_; (first | rw [← Ny114.out] at ho4 | (simp only [Int.reduceToNat] at ho4; rw [← Ny114.out] at ho4)); have HO116 := aM (Kd.R_lower ho4 (below_size (xH HB.out))); replace HB := yS0 HB hb; clear hb ho4)); go_loopg [5, 9] k (fun kq v5 v9 w' => ∃ (x5_1 : List Int) (x9_1 : Int), v9 = .int .i64 x9_1 ∧ Aside0 (impl_bitPoint.l0 kq a1 x5_1 a0 x9_1 = some r) ∧ Aside0 (kq ≤ k) ∧ Aside0 (Kd.R (Kd.int .i64) 3 w' w.heap.size (fun _ => True) v5 x5_1) ∧ Aside0 (Below w.heap.size w w')); case atStart => exact ⟨(y114), (0), yZ, H', ⟨Nat.le_refl _⟩, ⟨xR HO116.out⟩, ⟨xH HB.out⟩⟩
 case round =>
  clear H'; obtain ⟨x5_1, x9_1, rfl, HA, HK1, HO_5, HB⟩ := hrel; cases gk with
  | zero => exact absurd HA.out (by simp [impl_bitPoint.l0])
  | succ k1 =>
   have H := HA.out; clear HA; simp only [impl_bitPoint.l0] at H; obtain ⟨-, c5b0, H⟩ | ⟨-, c5b0, H⟩ := yif H
   rotate_left
   ·
    obtain rfl := Option.some.inj H; go_wp2; go_ret; exact ⟨_, yF, xR HO_5.out, xH HB.out⟩
   obtain ⟨c6, -, H⟩ | ⟨c6, -, H⟩ := yif H
   rotate_left
   · exact absurd H (by simp)
   have c6b0 := eq_true c6; have c6b1 : decide (0 ≤ x9_1) = true := decide_eq_true c6; clear c6; obtain ⟨ji7, hji7⟩ := yJ ((shr .i64 a1 x9_1)); (first | rw [hji7] at H | simp only [hji7] at H); have hji7_ : (a1 / 2 ^ min x9_1.toNat 64) = ji7 := hji7; have hji7z : x9_1 ≤ 64 → (a1 / 2 ^ x9_1.toNat) = ji7 := shr_small hji7; obtain ⟨c8, -, H⟩ | ⟨c8, -, H⟩ := yif H
   rotate_left
   · exact absurd H (by simp)
   have LMc8 := aM c8; clear c8; obtain ⟨y117, hy117⟩ := yE (x5_1 ++ [Go.bits .and .i64 (ji7) 1] : List Int); replace H : (impl_bitPoint.l0 k1 a1 y117 a0 (wrap64 (x9_1 + 1))) = some r := yI hy117 H; have Ny117 := aM hy117; clear hy117; have H' := aM H; clear H; go_wp2_with (first | ((with_reducible refine gate_builtin (b := .append) (xs := #[.tmp 12, .tmp 17]) rfl ?_); at_builtin; refine Kd.R_append (Kd.int .i64) (w0 := w) w.heap.size rfl (.tmp 12) (.tmp 17) 24 3 (.int .i64 0) 8 rfl Try.underlying24 info3 rfl (by decide) (by omega) u5 x5_1 (Go.bits .and .i64 (ji7) 1) [.int .i64 (Go.bits .and .i64 (ji7) 1)] (fun _ => True) (fun _ => False) rfl rfl ?aP (fun _ hk => hk.elim) ?aF ?aO ?aB ?aS ?aL ?_; (case aP => exact rfl); (case aB => exact (xH HB.out)); (case aF => exact (fun _ _ => trivial)); (case aO => exact (xR HO_5.out)); (case aS => exact (below_size (xH HB.out))); (case aL => have := LMc8.out; omega); intro v118 w9 ho hb hg hat; rw [← Ny117.out] at ho; replace HB := aM (hb); have HO119 := aM (ho); clear HO_5; clear ho hb hg hat)); go_roundg k1; case measure => have := HK1.out; omega
   case rel => exact ⟨(y117), (wrap64 (x9_1 + 1)), yZ, H', ⟨by have := HK1.out; omega⟩, ⟨xR HO119.out⟩, ⟨xH HB.out⟩⟩
end Go.Proofs.Ytmfmgnpefjmieaa.PFnTables
