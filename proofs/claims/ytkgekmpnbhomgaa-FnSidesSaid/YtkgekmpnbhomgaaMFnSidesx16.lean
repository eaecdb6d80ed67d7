-- Laid for this claim by a program of the session's own (wip/tool/myprint.py).
import Derived.Test.YtkgekmpnbhomgaaMFnSidesx15
namespace Go.Proofs.Ytkgekmpnbhomgaa.PFnSides
open Go.RowKit Go.Proofs.YtkgekmpnbhomgaaW.PrintWords Go.Proofs.YtkgekmpnbhomgaaW.PrintLast Go.Proofs.YtkgekmpnbhomgaaW.PrintMore
attribute [local go_sem] max2_int min2_int max_two min_two max_three min_three max_four min_four
set_option linter.unusedVariables false
set_option linter.unusedSimpArgs false
def hdr (n : Nat) : Kd (Nat × Nat) := Kd.scalar (fun p : Nat × Nat => .slice (some ⟨p.1, 0, none⟩) n p.2) (fun _ => rfl)
structure Mx (w : World) (base : Nat) (ok : Nat → Prop) (g cap n : Nat) (hs : List (Nat × Nat)) (R : List (List Int)) : Prop where
  len : hs.length = R.length
  out : (hdr n).R 24 w base (fun k => k = g) (.slice (some ⟨g, 0, none⟩) R.length cap) hs
  row : ∀ i, i < R.length → Kd.R (Kd.int .i64) 3 w base (fun k => k = (hs.getD i (0, 0)).1) (.slice (some ⟨(hs.getD i (0, 0)).1, 0, none⟩) n (hs.getD i (0, 0)).2) (R.getD i [])
  ne : ∀ i j, i < R.length → j < R.length → (hs.getD i (0, 0)).1 = (hs.getD j (0, 0)).1 → i = j
  okg : ok g
  okb : ∀ i, i < R.length → ok (hs.getD i (0, 0)).1 ∧ (hs.getD i (0, 0)).1 ≠ g
theorem mx_one (cs : List Value) (i : Nat) (v : Value) : (cs.drop (i * 1)).take 1 = [v] ↔ cs[i]? = some v := by
  rw [Nat.mul_one]; constructor
  · intro h; have := congrArg (fun l => l[0]?) h
    simpa [List.getElem?_take, List.getElem?_drop] using this
  · intro h; obtain ⟨hi, rfl⟩ := List.getElem?_eq_some_iff.1 h; rw [List.drop_eq_getElem_cons hi]; rfl
theorem Mx.of_S {w : World} {base m cap n : Nat} {ok : Nat → Prop} {A : Option Addr} {R : List (List Int)} (h : Kd.S (Kd.slice 3 (Kd.int .i64)) 24 w base ok (.slice A m cap) R) (hn : 1 ≤ n) (hr : ∀ r ∈ R, r.length = n) (h0 : 0 < R.length) :
    ∃ g hs, A = some ⟨g, 0, none⟩ ∧ m = R.length ∧ Mx w base ok g cap n hs R := by
  obtain ⟨g, cap', ev, hg1, hg2, cells, hgc⟩ := Kd.S_form h h0; injection ev with eA em ec; subst em eA ec; obtain ⟨f, hok, inner, ho, hrep⟩ := h; rw [List.length_zipIdx] at ho
  have H : ∀ i, i < R.length → ∃ p : Nat × Nat, inner[i]? = some (.slice (some ⟨p.1, 0, none⟩) n p.2) ∧ (ok p.1 ∧ p.1 ≠ g) ∧ f p.1 = i ∧ Kd.R (Kd.int .i64) 3 w base (fun k => k = p.1) (.slice (some ⟨p.1, 0, none⟩) n p.2) (R.getD i []) := by
    intro i hi; have hx : R[i]? = some (R.getD i []) := by rw [List.getD_eq_getElem?_getD, List.getElem?_eq_getElem hi]; rfl
    obtain ⟨v, hv, hR⟩ := hrep.2 i (R.getD i [], i) (Kd.zip_at hx); have hl : (R.getD i []).length = n := by rw [List.getD_eq_getElem?_getD, List.getElem?_eq_getElem hi]; exact hr _ (List.getElem_mem hi)
    obtain ⟨b, cb, rfl, _⟩ := Kd.R_form hR (by simp only at hl ⊢; omega); have hob := hR.1 b rfl; simp only at hl hob hR hv; rw [hl] at hR hv; refine ⟨(b, cb), (mx_one inner i _).1 hv, ⟨hob.1.1, fun e => hob.1.2 (by rw [show b = g from e]; rfl)⟩, hob.2, rM (Kd.R_tight rfl hR) (fun k hk => ?_)⟩; have : some k = some b := hk; exact Option.some.inj this
  obtain ⟨q, hq⟩ : ∃ q : Nat → Nat × Nat, ∀ i, i < R.length → inner[i]? = some (.slice (some ⟨(q i).1, 0, none⟩) n (q i).2) ∧ (ok (q i).1 ∧ (q i).1 ≠ g) ∧ f (q i).1 = i ∧ Kd.R (Kd.int .i64) 3 w base (fun k => k = (q i).1) (.slice (some ⟨(q i).1, 0, none⟩) n (q i).2) (R.getD i []) :=
    ⟨fun i => if h : i < R.length then Classical.choose (H i h) else (0, 0), fun i hi => by simp only [dif_pos hi]; exact Classical.choose_spec (H i hi)⟩
  have hL : ((List.range R.length).map q).length = R.length := by simp
  have hat : ∀ i, i < R.length → ((List.range R.length).map q).getD i (0, 0) = q i := fun i hi => by
    rw [List.getD_eq_getElem?_getD, List.getElem?_map, List.getElem?_range hi]; rfl
  refine ⟨g, (List.range R.length).map q, rfl, rfl, hL, ⟨fun k hk => ?_, inner, by rw [hL]; exact ho, by rw [ho.1, hL]; rfl, fun j p hj => ?_⟩, fun i hi => ?_, fun i j hi hj e => ?_, ?_, fun i hi => ?_⟩
  · have : some g = some k := hk; exact (Option.some.inj this).symm
  · obtain ⟨hjl, e⟩ := List.getElem?_eq_some_iff.1 hj; rw [hL] at hjl; have e2 : q j = p := by rw [← e]; simp
    have h1 := (hq j hjl).1; rw [e2] at h1; exact (mx_one inner j _).2 h1
  · rw [hat i hi]; exact (hq i hi).2.2.2
  · rw [hat i hi, hat j hj] at e; rw [← (hq i hi).2.2.1, ← (hq j hj).2.2.1, e]
  · exact hok g rfl
  · rw [hat i hi]; exact (hq i hi).2.1
theorem Mx.to_S {w : World} {base g cap n : Nat} {ok : Nat → Prop} {hs : List (Nat × Nat)} {R : List (List Int)} (h : Mx w base ok g cap n hs R) : Kd.S (Kd.slice 3 (Kd.int .i64)) 24 w base ok (.slice (some ⟨g, 0, none⟩) R.length cap) R := by
  obtain ⟨f, hf⟩ : ∃ f : Nat → Nat, ∀ i, i < R.length → f (hs.getD i (0, 0)).1 = i := by
    refine ⟨fun k => Classical.epsilon fun i => i < R.length ∧ (hs.getD i (0, 0)).1 = k, fun i hi => ?_⟩; have := Classical.epsilon_spec (p := fun j => j < R.length ∧ (hs.getD j (0, 0)).1 = (hs.getD i (0, 0)).1) ⟨i, hi, rfl⟩; exact h.ne _ _ this.1 hi this.2
  obtain ⟨_, inner, ho, hrep⟩ := h.out; rw [h.len] at ho; refine ⟨f, fun k hk => ?_, inner, by rw [List.length_zipIdx]; exact ho, by rw [ho.1, List.length_zipIdx]; rfl, fun j p hj => ?_⟩
  · have : some g = some k := hk; exact Option.some.inj this ▸ h.okg
  · rw [List.getElem?_zipIdx, Nat.zero_add] at hj; obtain ⟨x, hx, rfl⟩ := Option.map_eq_some_iff.1 hj; obtain ⟨hjl, ex⟩ := List.getElem?_eq_some_iff.1 hx; have hp : hs[j]? = some (hs.getD j (0, 0)) := by rw [List.getD_eq_getElem?_getD, List.getElem?_eq_getElem (by rw [h.len]; exact hjl)]; rfl
    have h1 := hrep.2 j _ hp; have hrow := h.row j hjl; rw [show R.getD j [] = x by rw [List.getD_eq_getElem?_getD, hx]; rfl] at hrow; refine ⟨_, h1, rM hrow (fun k hk => ?_)⟩; subst hk; have hb := h.okb j hjl; exact ⟨⟨hb.1, fun e => hb.2 (Option.some.inj e)⟩, hf j hjl⟩
section
variable {w w1 : World} {base g cap n : Nat} {ok : Nat → Prop} {hs : List (Nat × Nat)} {R : List (List Int)}
theorem Mx.rowlen (h : Mx w base ok g cap n hs R) (i : Nat) (hi : i < R.length) : (R.getD i []).length = n := (Kd.R_reads' (h.row i hi)).1.symm
theorem Mx.step (h : Mx w base ok g cap n hs R) (hm : ∀ k, ok k → k < w.heap.size → w1.heap[k]? = w.heap[k]?) : Mx w1 base ok g cap n hs R :=
  { h with
    out := Kd.R_step h.out (fun k hk hlt => hm k (hk ▸ h.okg) hlt)
    row := fun i hi => Kd.R_step (h.row i hi) (fun k hk hlt => hm k (hk ▸ (h.okb i hi).1) hlt) }
theorem Mx.below (h : Mx w base ok g cap n hs R) (hb : Below w.heap.size w w1) : Mx w1 base ok g cap n hs R := h.step (fun k _ hk => hb.block k hk)
theorem Mx.mono {ok' : Nat → Prop} (h : Mx w base ok g cap n hs R) (hok : ∀ k, ok k → ok' k) : Mx w base ok' g cap n hs R :=
  { h with okg := hok _ h.okg, okb := fun i hi => ⟨hok _ (h.okb i hi).1, (h.okb i hi).2⟩ }
theorem Mx.bound (h : Mx w base ok g cap n hs R) : Mx w base (fun k => ok k ∧ k < w.heap.size) g cap n hs R :=
  { h with
    okg := ⟨h.okg, Kd.R_lt h.out g rfl⟩
    okb := fun i hi => ⟨⟨(h.okb i hi).1, Kd.R_lt (h.row i hi) _ rfl⟩, (h.okb i hi).2⟩ }
theorem Mx.head (h : Mx w base ok g cap n hs R) (i : Nat) (hi : i < R.length) : w.cell? ⟨g, i, none⟩ = some (.slice (some ⟨(hs.getD i (0, 0)).1, 0, none⟩) n (hs.getD i (0, 0)).2) ∧ w.frozen? ⟨g, i, none⟩ = false := by
  have := Kd.R_celln (0, 0) h.out (i : Int) (by omega) (by omega); rw [Int.toNat_natCast] at this; refine ⟨this.1.trans ?_, this.2⟩; unfold rdOf; rw [Int.toNat_natCast]
theorem Mx.cell (h : Mx w base ok g cap n hs R) (i j : Nat) (hi : i < R.length) (hj : j < n) : w.cell? ⟨(hs.getD i (0, 0)).1, j, none⟩ = some (.int .i64 (rd (R.getD i []) (j : Int))) ∧ w.frozen? ⟨(hs.getD i (0, 0)).1, j, none⟩ = false := by
  have := Kd.R_celln 0 (h.row i hi) (j : Int) (by omega) (by omega); rw [Int.toNat_natCast] at this; refine ⟨this.1.trans ?_, this.2⟩; rfl
theorem getD_set_ne {α : Type} (l : List α) (i j : Nat) (x d : α) (h : i ≠ j) : (l.set i x).getD j d = l.getD j d := by
  rw [List.getD_eq_getElem?_getD, List.getElem?_set_ne h, ← List.getD_eq_getElem?_getD]
theorem getD_set_eq {α : Type} (l : List α) (i : Nat) (x d : α) (h : i < l.length) : (l.set i x).getD i d = x := by
  rw [List.getD_eq_getElem?_getD, List.getElem?_set_self h]; rfl
theorem Mx.put (h : Mx w base ok g cap n hs R) (i : Nat) (hi : i < R.length) {x : List Int} (hx : Kd.R (Kd.int .i64) 3 w1 base (fun k => k = (hs.getD i (0, 0)).1) (.slice (some ⟨(hs.getD i (0, 0)).1, 0, none⟩) n (hs.getD i (0, 0)).2) x)
    (hm : ∀ k, k ≠ (hs.getD i (0, 0)).1 → k < w.heap.size → w1.heap[k]? = w.heap[k]?) : Mx w1 base ok g cap n hs (R.set i x) where
  len := by rw [List.length_set]; exact h.len
  out := by
    rw [List.length_set]; exact Kd.R_step h.out (fun k hk hlt => hm k (fun e => (h.okb i hi).2 (e.symm.trans hk)) hlt)
  row := fun j hj => by
    rw [List.length_set] at hj; by_cases e : i = j
    · subst e; rw [getD_set_eq R i x [] hi]; exact hx
    · rw [getD_set_ne R i j x [] e]; exact Kd.R_step (h.row j hj) (fun k hk hlt => hm k (fun e2 => e (h.ne i j hi hj (e2.symm.trans hk))) hlt)
  ne := fun j k hj hk => by rw [List.length_set] at hj hk; exact h.ne j k hj hk
  okg := h.okg
  okb := fun j hj => by rw [List.length_set] at hj; exact h.okb j hj
theorem Mx.swap (h : Mx w base ok g cap n hs R) (r i : Nat) (hr : r < R.length) (hi : i < R.length) :
    Mx ((w.setCell ⟨g, r, none⟩ (.slice (some ⟨(hs.getD i (0, 0)).1, 0, none⟩) n (hs.getD i (0, 0)).2)).setCell ⟨g, i, none⟩ (.slice (some ⟨(hs.getD r (0, 0)).1, 0, none⟩) n (hs.getD r (0, 0)).2)) base ok g cap n
      ((hs.set r (hs.getD i (0, 0))).set i (hs.getD r (0, 0))) ((R.set r (R.getD i [])).set i (R.getD r [])) := by
  have hl := h.len; have h1 := Kd.R_putn (Kd.R_putn h.out (r : Int) (hs.getD i (0, 0))) (i : Int) (hs.getD r (0, 0)); rw [Int.toNat_natCast, Int.toNat_natCast] at h1; obtain ⟨τ, hτ⟩ : ∃ τ : Nat → Nat, τ = fun j => if j = i then r else if j = r then i else j := ⟨_, rfl⟩
  have hat : ∀ {α : Type} (l : List α) (d : α), l.length = R.length → ∀ j, j < R.length → ((l.set r (l.getD i d)).set i (l.getD r d)).getD j d = l.getD (τ j) d := by
    intro α l d hll j hj; rw [hτ]; simp only; by_cases e : j = i
    · subst e; rw [if_pos rfl, getD_set_eq _ _ _ _ (by rw [List.length_set]; omega)]
    · rw [if_neg e, getD_set_ne _ _ _ _ _ (fun x => e x.symm)]; by_cases e2 : j = r
      · subst e2; rw [if_pos rfl, getD_set_eq _ _ _ _ (by omega)]
      · rw [if_neg e2, getD_set_ne _ _ _ _ _ (fun x => e2 x.symm)]
  have hτm : ∀ j, j < R.length → τ j < R.length := fun j hj => by rw [hτ]; simp only; split; exact hr; split; exact hi; exact hj
  have hτi : ∀ j k, τ j = τ k → j = k := fun j k e => by
    rw [hτ] at e; simp only at e; split at e <;> split at e <;> (try split at e) <;> (try split at e) <;> omega
  have hfar : ∀ k, k ≠ g → ((w.setCell ⟨g, r, none⟩ (.slice (some ⟨(hs.getD i (0, 0)).1, 0, none⟩) n (hs.getD i (0, 0)).2)).setCell ⟨g, i, none⟩ (.slice (some ⟨(hs.getD r (0, 0)).1, 0, none⟩) n (hs.getD r (0, 0)).2)).heap[k]? = w.heap[k]? := fun k hk =>
    (Below.heap_setCell _ _ _ k hk).trans (Below.heap_setCell _ _ _ k hk)
  refine ⟨by simp only [List.length_set]; exact hl, ?_, fun j hj => ?_, fun j k hj hk e => ?_, h.okg, fun j hj => ?_⟩
  · simp only [List.length_set]; exact h1
  · simp only [List.length_set] at hj; rw [hat hs (0, 0) hl j hj, hat R [] rfl j hj]; exact Kd.R_step (h.row _ (hτm j hj)) (fun k hk _ => hfar k (fun e => (h.okb _ (hτm j hj)).2 (hk ▸ e)))
  · simp only [List.length_set] at hj hk; rw [hat hs (0, 0) hl j hj, hat hs (0, 0) hl k hk] at e; exact hτi j k (h.ne _ _ (hτm j hj) (hτm k hk) e)
  · simp only [List.length_set] at hj; rw [hat hs (0, 0) hl j hj]; exact h.okb _ (hτm j hj)
end
theorem set_take_drop (x y : List Int) (j : Nat) (v : Int) (hl : x.length = y.length) (hj : j < x.length) (hv : y.getD j 0 = v) : (y.take j ++ x.drop j).set j v = y.take (j + 1) ++ x.drop (j + 1) := by
  have hy : y[j]'(by omega) = v := by rw [← hv, List.getD_eq_getElem?_getD, List.getElem?_eq_getElem (by omega)]; rfl
  rw [List.set_append_right _ _ (by simp; omega), List.take_succ_eq_append_getElem (by omega), hy]; have e : x.drop j = x[j] :: x.drop (j + 1) := List.drop_eq_getElem_cons hj; rw [show j - (y.take j).length = 0 by simp; omega, e]; simp only [sZ, List.append_assoc, List.cons_append, List.nil_append]
theorem set_getD_self (S : List (List Int)) (i : Nat) : S.set i (S.getD i []) = S := by
  apply List.ext_getElem?; intro j; by_cases e : i = j
  · subst e; by_cases h : i < S.length
    · rw [List.getElem?_set_self h, List.getD_eq_getElem?_getD, List.getElem?_eq_getElem h]; rfl
    · rw [List.getElem?_eq_none (by simp; omega), List.getElem?_eq_none (by omega)]
  · rw [List.getElem?_set_ne e]
def impl_reduced.find (R : List (List Int)) (c : Nat) : Nat → Nat → Nat
  | i, 0 => i
  | i, d + 1 => if rd (R.getD i []) (c : Int) = 0 then impl_reduced.find R c (i + 1) d else i
def impl_reduced.row (a b : Int) (x p : List Int) : List Int := (List.range x.length).map fun j : Nat => wrap64 ((wrap64 (a * rd x (j : Int))) - (wrap64 (b * rd p (j : Int))))
def impl_reduced.rows (k : Nat) (r c : Nat) : Nat → Nat → List (List Int) → Option (List (List Int))
  | _, 0, R => some R
  | i, d + 1, R => if i = r ∨ rd (R.getD i []) (c : Int) = 0 then impl_reduced.rows k r c (i + 1) d R
    else (impl_shortened.f k (impl_reduced.row (rd (R.getD r []) (c : Int)) (rd (R.getD i []) (c : Int)) (R.getD i []) (R.getD r []))).bind fun s => impl_reduced.rows k r c (i + 1) d (R.set i s)
def impl_reduced.swp (R : List (List Int)) (r i : Nat) : List (List Int) := (R.set r (R.getD i [])).set i (R.getD r [])
def impl_reduced.cols (k : Nat) : Nat → Nat → List (List Int) → List Int → Option (List Int × List (List Int))
  | _, 0, R, p => some (p, R)
  | c, d + 1, R, p =>
    if impl_reduced.find R c p.length (R.length - p.length) = R.length then impl_reduced.cols k (c + 1) d R p
    else (impl_shortened.f k ((impl_reduced.swp R p.length (impl_reduced.find R c p.length (R.length - p.length))).getD p.length [])).bind fun s =>
      (impl_reduced.rows k p.length c 0 R.length ((impl_reduced.swp R p.length (impl_reduced.find R c p.length (R.length - p.length))).set p.length s)).bind fun R2 => impl_reduced.cols k (c + 1) d R2 (p ++ [(c : Int)])
def impl_reduced.f (k : Nat) (l0 : List (List Int)) (a1 : Int) : Option (List Int × List (List Int)) :=
  if ((1 ≤ a1 ∧ 1 ≤ l0.length) ∧ (l0.length ≤ 1000 ∧ a1 ≤ 1000)) ∧ ∀ r ∈ l0, (r.length : Int) = a1 then impl_reduced.cols k 0 a1.toNat l0 [] else none
structure RdSt (w0 w : World) (P : Nat → Prop) (g cap n m : Nat) (W : World) (hs : List (Nat × Nat)) (R : List (List Int)) (vp : Value) (p : List Int) : Prop where
  mx : Mx W w0.heap.size (fun k => P k ∧ k < w.heap.size) g cap n hs R
  len : R.length = m
  piv : Kd.R (Kd.int .i64) 3 W w.heap.size (fun _ => True) vp p
  bel : Below w0.heap.size w0 W
  kep : Kept w W (fun k_ => P k_)
  siz : w0.heap.size ≤ w.heap.size ∧ w.heap.size ≤ W.heap.size
section
variable {w0 w W W1 : World} {P : Nat → Prop} {g cap n m : Nat} {hs : List (Nat × Nat)} {R : List (List Int)} {vp : Value} {p : List Int}
theorem RdSt.below (h : RdSt w0 w P g cap n m W hs R vp p) (hb : Below W.heap.size W W1) : RdSt w0 w P g cap n m W1 hs R vp p :=
  ⟨h.mx.below hb, h.len, Kd.R_below h.piv hb, below_step h.bel hb, Kept.below h.kep hb, h.siz.1, Nat.le_trans h.siz.2 hb.size⟩
theorem RdSt.drew (h : RdSt w0 w P g cap n m W hs R vp p) (q : Nat) : RdSt w0 w P g cap n m (W.drewN q) hs R vp p := h.below (eN (Below.refl _ _) q)
theorem RdSt.own (h : RdSt w0 w P g cap n m W hs R vp p) (i : Nat) (hi : i < m) : P (hs.getD i (0, 0)).1 ∧ (hs.getD i (0, 0)).1 < w.heap.size ∧ w0.heap.size ≤ (hs.getD i (0, 0)).1 := by
  have hi' : i < R.length := by rw [h.len]; exact hi
  have := (h.mx.okb i hi').1; exact ⟨this.1, this.2, Kd.R_base (h.mx.row i hi') _ rfl⟩
theorem RdSt.put (h : RdSt w0 w P g cap n m W hs R vp p) (i : Nat) (hi : i < m) {x : List Int} {okx : Nat → Prop} (hx : Kd.R (Kd.int .i64) 3 W1 w0.heap.size okx (.slice (some ⟨(hs.getD i (0, 0)).1, 0, none⟩) n (hs.getD i (0, 0)).2) x)
    (hk : Kept W W1 (fun k_ => k_ = (hs.getD i (0, 0)).1)) (hb : Below w0.heap.size w0 W1) : RdSt w0 w P g cap n m W1 hs (R.set i x) vp p := by
  have hi' : i < R.length := by rw [h.len]; exact hi
  have ho := h.own i hi; refine ⟨h.mx.put i hi' (rM (Kd.R_tight rfl hx) (fun k hk => ?_)) (fun k hn hlt => hk.2 k hlt hn), by rw [List.length_set]; exact h.len, ?_, hb, Kept.then_ h.kep hk (fun k e => .inl (e ▸ ho.1)), h.siz.1, Nat.le_trans h.siz.2 hk.1⟩
  · have : some k = some (hs.getD i (0, 0)).1 := hk; exact Option.some.inj this
  · refine Kd.R_step (Kd.R_bound h.piv) (fun k hok hlt => hk.2 k hlt (fun e => ?_)) |> fun h2 => rM h2 (fun _ _ => trivial)
    have := hok.2.1; have := ho.2.1; omega
theorem RdSt.store (h : RdSt w0 w P g cap n m W hs R vp p) (i : Nat) (hi : i < m) (j : Nat) (x : Int) (hW : W1 = W.setCell ⟨(hs.getD i (0, 0)).1, j, none⟩ (.int .i64 x)) : RdSt w0 w P g cap n m W1 hs (R.set i ((R.getD i []).set j x)) vp p := by
  have hi' : i < R.length := by rw [h.len]; exact hi
  have ho := h.own i hi; have hp := Kd.R_putg (h.mx.row i hi') (j : Int) x; rw [Int.toNat_natCast] at hp; subst hW; refine h.put i hi hp.1 (Kept.of_grown hp.2 (Kept.refl W _) (fun k e => .inl (Option.some.inj e).symm)) (eS h.bel ho.2.2)
theorem RdSt.swap (h : RdSt w0 w P g cap n m W hs R vp p) (r i : Nat) (hr : r < m) (hi : i < m) {W2 : World} (hW : W1 = W.setCell ⟨g, r, none⟩ (.slice (some ⟨(hs.getD i (0, 0)).1, 0, none⟩) n (hs.getD i (0, 0)).2)) (hW2 : W2 = W1.setCell ⟨g, i, none⟩ (.slice (some ⟨(hs.getD r (0, 0)).1, 0, none⟩) n (hs.getD r (0, 0)).2)) :
    RdSt w0 w P g cap n m W2 ((hs.set r (hs.getD i (0, 0))).set i (hs.getD r (0, 0))) ((R.set r (R.getD i [])).set i (R.getD r [])) vp p := by
  subst hW hW2; have hg := h.mx.okg; have hgb : w0.heap.size ≤ g := Kd.R_base h.mx.out _ rfl; refine ⟨h.mx.swap r i (by rw [h.len]; exact hr) (by rw [h.len]; exact hi), by simp only [List.length_set]; exact h.len, ?_, eS (eS h.bel hgb) hgb, Kept.setCell (Kept.setCell h.kep (.inl hg.1) _) (.inl hg.1) _, h.siz.1, ?_⟩
  · refine Kd.R_step (Kd.R_bound h.piv) (fun k hok hlt => (Below.heap_setCell _ _ _ k ?_).trans (Below.heap_setCell _ _ _ k ?_)) |> fun h2 => rM h2 (fun _ _ => trivial)
    · have := hok.2.1; have := hg.2; intro e; simp only at e; omega
    · have := hok.2.1; have := hg.2; intro e; simp only at e; omega
  · have := (Kept.setCell (Kept.setCell h.kep (.inl hg.1) (p := ⟨g, r, none⟩) (.slice (some ⟨(hs.getD i (0, 0)).1, 0, none⟩) n (hs.getD i (0, 0)).2)) (.inl hg.1) (p := ⟨g, i, none⟩) (.slice (some ⟨(hs.getD r (0, 0)).1, 0, none⟩) n (hs.getD r (0, 0)).2)).1; exact this
theorem RdSt.half (h : RdSt w0 w P g cap n m W hs R vp p) (r i : Nat) (hr : r < m) (hi : i < m) (hW : W1 = W.setCell ⟨g, r, none⟩ (.slice (some ⟨(hs.getD i (0, 0)).1, 0, none⟩) n (hs.getD i (0, 0)).2)) : (∃ v, W1.cell? ⟨g, i, none⟩ = some (.slice (some ⟨(v : Nat × Nat).1, 0, none⟩) n v.2)) ∧ W1.frozen? ⟨g, i, none⟩ = false := by
  subst hW; have hp := Kd.R_putn h.mx.out (r : Int) (hs.getD i (0, 0)); have := Kd.R_celln (0, 0) hp (i : Int) (by omega) (by have := h.len; omega); rw [Int.toNat_natCast, Int.toNat_natCast] at this; exact ⟨⟨_, this.1⟩, this.2⟩
theorem RdSt.app (h : RdSt w0 w P g cap n m W hs R vp p) {vq : Value} {q : List Int} (hb : Below w.heap.size W W1) (hq : Kd.R (Kd.int .i64) 3 W1 w.heap.size (fun _ => True) vq q) : RdSt w0 w P g cap n m W1 hs R vq q :=
  ⟨h.mx.step (fun k hk _ => hb.block k hk.2), h.len, hq, below_weaken h.bel h.siz.1 hb, ⟨Nat.le_trans h.siz.2 hb.size, fun i hi hn => (hb.block i hi).trans (h.kep.2 i hi hn)⟩, h.siz.1, Nat.le_trans h.siz.2 hb.size⟩
end
set_option maxHeartbeats 16000000 in
set_option maxRecDepth 100000 in
theorem impl_reduced.calls (k : Nat) (P0_ : Nat → Prop) (u9000_ : Value) (l0 : List (List Int)) (a1 : Int) (r1 : List Int) (r2 : List (List Int)) (w0 w : World) (hB : Below w0.heap.size w0 w) (ho0 : Kd.S (Kd.slice 3 (Kd.int .i64)) 24 w w0.heap.size P0_ u9000_ l0) (h : impl_reduced.f k l0 a1 = some (r1, r2)) :
    Calls Try.prog 122 #[u9000_, .int .i64 a1] w fun e w' => ∃ v0_ : Value, e = .returned (v0_) ∧ Kd.V (Kd.int .i64) 3 w' w0.heap.size (fun k_ => (P0_ k_ ∨ w.heap.size ≤ k_) ∧ some k_ ≠ (u9000_ : Value).ownBlock) v0_ r1 ∧ Kd.S (Kd.slice 3 (Kd.int .i64)) 24 w' w0.heap.size (fun k_ => (P0_ k_ ∨ w.heap.size ≤ k_)) u9000_ r2 ∧ Below w0.heap.size w0 w' ∧ Kept w w' (fun k_ => P0_ k_) := by
 unfold impl_reduced.f at h; by_cases hc : ((1 ≤ a1 ∧ 1 ≤ l0.length) ∧ (l0.length ≤ 1000 ∧ a1 ≤ 1000)) ∧ ∀ r ∈ l0, (r.length : Int) = a1
 ·
  rw [if_pos hc] at h; obtain ⟨⟨⟨ha1, hm1⟩, hm2, ha2⟩, hrow⟩ := hc; obtain ⟨n, rfl⟩ := Int.eq_ofNat_of_zero_le (show 0 ≤ a1 by omega); rw [Int.toNat_natCast] at h; obtain ⟨A, cap, rfl⟩ := Kd.S_slice ho0; obtain ⟨g, hs0, rfl, _, hmx0⟩ := Mx.of_S (n := n) ho0 (by omega) (fun r hr => by have := hrow r hr; omega) (by omega); obtain ⟨m, hm⟩ : ∃ m, m = l0.length := ⟨_, rfl⟩
  rw [← hm] at hm1 hm2 ⊢; have HM0 := aM (hmx0.bound); have HN := aM (show (1 ≤ n ∧ n ≤ 1000) ∧ (1 ≤ m ∧ m ≤ 1000) from by omega); have HL0 := aM hm.symm; have HB := aM hB; have HF := aM h; clear ho0 hmx0 hm hB h ha1 hm1 hm2 ha2 hrow; go_enter Try.func122, Try.ntmps122; go_wp2_with (first | ((with_reducible refine gate_dst (N := 14) rfl ?_); refine Kd.R_lit (Kd.int .i64) _ 3 ?hg (N := 14) ?hd (xs := ([] : List Int)) (inner := []) (ok := fun _ => True) (okp := fun _ => True) ?hr ?hp (fun _ hk => hk) trivial (Below.refl _ _) (Nat.le_refl _) (by simp) ?_; (case hd => rfl); (case hg => rfl); (case hr => first | (go_simp; done) | (go_simp; rfl)); (case hp => exact (Reps.none _ _)); intro v134 w5 ho6 hb hg_ hnew_; clear hg_ hnew_; have HO := aM ho6; have HB5 := aM hb; clear hb ho6)); have HS0 : Aside0 (RdSt w0 w P0_ g cap n m w5 hs0 l0 v134 []) := ⟨(HM0.out).below HB5.out, HL0.out, HO.out, below_step HB.out HB5.out, Kept.below (Kept.refl w _) HB5.out, HB.out.size, HB5.out.size⟩
  clear HM0 HO HB5 HB; go_loopw [5, 16] (fun v5 v16 w' => ∃ (c : Nat) (R : List (List Int)) (p : List Int) (hs : List (Nat × Nat)), v16 = .int .i64 (c : Int) ∧ Aside0 (c ≤ n) ∧ Aside0 (p.length ≤ c ∧ p.length ≤ m) ∧ Aside0 (impl_reduced.cols k c (n - c) R p = some (r1, r2)) ∧ Aside0 (RdSt w0 w P0_ g cap n m w' hs R v5 p)) (fun _ v16 _ => n - (intOf v16).toNat); case atStart => exact ⟨0, l0, [], hs0, rfl, ⟨Nat.zero_le _⟩, ⟨Nat.zero_le _, Nat.zero_le _⟩, HF, HS0⟩
  case round =>
   clear HF HS0 HL0; obtain ⟨c, R, p, hs, rfl, HC, HP, HF, HS⟩ := hrel; by_cases cc : c < n
   ·
    have c0 : decide ((c : Int) < (n : Int)) = true := decide_eq_true (by omega); have c1 : decide (c < n) = true := decide_eq_true cc; have hc0 : (0 : Int) ≤ (c : Int) := by omega
    have hcb : (c : Int) ≤ 1000 := by have := HN.out; omega
    have HCN := aM cc; obtain ⟨Ap, cp, rfl⟩ := Kd.R_slice HS.out.piv; go_upto_block 2 with (fail); go_cut [8] (fun v8 wc => ∃ i : Nat, v8 = .int .i64 (i : Int) ∧ Aside0 (p.length ≤ i ∧ i ≤ m) ∧ Aside0 (i = impl_reduced.find R c p.length (m - p.length)) ∧ Aside0 (RdSt w0 w P0_ g cap n m wc hs R (.slice Ap p.length cp) p))
    case first =>
     go_wp2; go_loopw [8] (fun v8 w' => ∃ i : Nat, v8 = .int .i64 (i : Int) ∧ Aside0 (p.length ≤ i ∧ i ≤ m) ∧ Aside0 (impl_reduced.find R c i (m - i) = impl_reduced.find R c p.length (m - p.length)) ∧ Aside0 (RdSt w0 w P0_ g cap n m w' hs R (.slice Ap p.length cp) p)) (fun v8 _ => m - (intOf v8).toNat); case atStart => exact ⟨p.length, rfl, ⟨Nat.le_refl _, HP.out.2⟩, ⟨rfl⟩, HS⟩
     case round =>
      obtain ⟨i, rfl, HI, HE, HSi⟩ := hrel; by_cases ci : i < m
      ·
       have d0 : decide ((i : Int) < (m : Int)) = true := decide_eq_true (by omega); have d1 : decide (i < m) = true := decide_eq_true ci; have hi0 : (0 : Int) ≤ (i : Int) := by omega
       have hib : (i : Int) ≤ 1000 := by have := HN.out; omega
       have hl := HSi.out.len; have hh := (HSi.out.mx.head i (by omega)).1; have hx := (HSi.out.mx.cell i c (by omega) HCN.out).1; have hE := HE.out; obtain ⟨bi, hbi⟩ : ∃ x, x = (hs.getD i (0, 0)).1 := ⟨_, rfl⟩
       obtain ⟨ci_, hci⟩ : ∃ x, x = (hs.getD i (0, 0)).2 := ⟨_, rfl⟩
       obtain ⟨x, ex⟩ : ∃ x, x = rd (R.getD i []) (c : Int) := ⟨_, rfl⟩
       rw [← hbi, ← hci] at hh; rw [← hbi, ← ex] at hx; clear hbi hci; rw [show m - i = (m - (i + 1)) + 1 by omega] at hE; rw [show impl_reduced.find R c i ((m - (i + 1)) + 1) = if rd (R.getD i []) (c : Int) = 0 then impl_reduced.find R c (i + 1) (m - (i + 1)) else i from rfl, ← ex] at hE; clear ex; by_cases cx : x = 0
       ·
        have e0 : (x == 0) = true := beq_iff_eq.2 cx; rw [if_pos cx] at hE; have HE2 := aM hE; have HCI := aM ci; clear hE cx; go_wp2; go_roundw; case rel => exact ⟨i + 1, by go_num, ⟨by have := HI.out; have := HCI.out; omega⟩, HE2, by first | exact HSi | exact ⟨HSi.out.drew _⟩⟩
        case measure => have := HCI.out; simp [intOf]; omega
       ·
        have e0 : (x == 0) = false := beq_eq_false_iff_ne.2 cx; rw [if_neg cx] at hE; have HE2 := aM hE; clear hE cx; go_wp2; go_meet; case rel => exact ⟨i, rfl, HI, HE2, by first | exact HSi | exact ⟨HSi.out.drew _⟩⟩
      ·
       have d0 : decide ((i : Int) < (m : Int)) = false := decide_eq_false (by omega); have d1 : decide (i < m) = false := decide_eq_false ci; have hE := HE.out; rw [show m - i = 0 by omega] at hE; rw [show impl_reduced.find R c i 0 = i from rfl] at hE; have HE2 := aM hE; clear hE ci; go_wp2; go_meet; case rel => exact ⟨i, rfl, HI, HE2, by first | exact HSi | exact ⟨HSi.out.drew _⟩⟩
    case rest =>
     clear HS; obtain ⟨i, rfl, HI, HE, HS⟩ := hcut; have hF := HF.out; rw [show n - c = (n - (c + 1)) + 1 by have := HCN.out; omega] at hF; unfold impl_reduced.cols at hF; rw [HS.out.len, ← HE.out] at hF; clear HF HE; by_cases ci : i = m
     ·
      have d0 : ((i : Int) == (m : Int)) = true := beq_iff_eq.2 (by omega); rw [if_pos ci] at hF; have HF := aM hF; clear hF; go_wp2; go_roundw; case rel => exact ⟨c + 1, R, p, hs, by go_num, ⟨HCN.out⟩, ⟨by have := HP.out; omega, HP.out.2⟩, HF, by first | exact HS | exact ⟨HS.out.drew _⟩⟩
      case measure => have := HCN.out; simp [intOf]; omega
     ·
      have d0 : ((i : Int) == (m : Int)) = false := beq_eq_false_iff_ne.2 (by omega); rw [if_neg ci] at hF; obtain ⟨s, hsh, hF⟩ := oB.mp hF; obtain ⟨R2, hrw, hF⟩ := oB.mp hF; have HCI := aM (show i < m ∧ p.length < m from by have := HI.out; omega); have HSH := aM hsh; have HRW := aM hrw; have HF := aM hF; clear hsh hrw hF ci; have him := HCI.out.1; have hrm := HCI.out.2; have hi0 : (0 : Int) ≤ (i : Int) := by omega
      have hr0 : (0 : Int) ≤ (p.length : Int) := by omega
      have hib : (c : Int) ≤ 1000 := by have := HN.out; omega
      have HSd : Aside0 (RdSt w0 w P0_ g cap n m (World.drew wc) hs R (.slice Ap p.length cp) p) := ⟨HS.out.below (eD (Below.refl _ _))⟩
      obtain ⟨hhi, hfi⟩ := HSd.out.mx.head i (by rw [HS.out.len]; exact HCI.out.1); obtain ⟨hhr, hfr⟩ := HSd.out.mx.head p.length (by rw [HS.out.len]; exact HCI.out.2); obtain ⟨bi, hbi⟩ : ∃ x, x = (hs.getD i (0, 0)).1 := ⟨_, rfl⟩
      obtain ⟨ci_, hci⟩ : ∃ x, x = (hs.getD i (0, 0)).2 := ⟨_, rfl⟩
      obtain ⟨br, hbr⟩ : ∃ x, x = (hs.getD p.length (0, 0)).1 := ⟨_, rfl⟩
      obtain ⟨cr_, hcr⟩ : ∃ x, x = (hs.getD p.length (0, 0)).2 := ⟨_, rfl⟩
      rw [← hbi, ← hci] at hhi; rw [← hbr, ← hcr] at hhr; have EQ := aM (show bi = (hs.getD i (0, 0)).1 ∧ ci_ = (hs.getD i (0, 0)).2 ∧ br = (hs.getD p.length (0, 0)).1 ∧ cr_ = (hs.getD p.length (0, 0)).2 from ⟨hbi, hci, hbr, hcr⟩); clear hbi hci hbr hcr; go_wp2; refine start_ (n := 16) (S := fun w' => w'.cell? ⟨g, i, none⟩ = some (.slice (some ⟨bi, 0, none⟩) n ci_) ∧ w'.cell? ⟨g, p.length, none⟩ = some (.slice (some ⟨br, 0, none⟩) n cr_)) (ds := [13, 15]) (bm 16 0) (by kernel_rfl) rfl rfl ⟨hhi, hhr⟩ (fun hHeld => ?_); refine yp 0 42 (bm 16 1) ?_; refine yp 1 43 (bm 16 3) ?_; refine yp 2 44 (bm 16 7) ?_; refine yp 3 45 (bm 16 15) ?_; refine yp 4 46 (bm 16 31) ?_; refine yp 5 47 (bm 16 63) ?_; refine yp 6 48 (bm 16 127) ?_; refine yp 8 50 (bm 16 383) ?_; refine yp 9 51 (bm 16 895) ?_; refine yp 10 52 (bm 16 1919) ?_; refine yt2 7 49 (bm 16 2047) hHeld ?_; refine yt2 11 53 (bm 16 4095) hHeld ?_; refine yp 12 54 (bm 16 8191) ?_; refine last_ (i := 13) (N := none) (bm 16 16383) rfl rfl (by kernel_rfl) (by decide) (fun K hK => ?_); refine skip_ (w1 := ?_) (by rfl) rfl ?_ ?_
      rotate_left
      ·
       go_simp; rfl
      obtain ⟨w12, hw12⟩ : ∃ W_, W_ = World.drew (wc.setCell ⟨g, p.length, none⟩ (.slice (some ⟨bi, 0, none⟩) n ci_)) := ⟨_, rfl⟩
      rw [← hw12]; obtain ⟨⟨v12, hh12⟩, hf12⟩ := HSd.out.half p.length i hrm him (W1 := w12) (by rw [hw12, EQ.out.1, EQ.out.2.1]; rfl); have HW12 := aM hw12; clear hw12; refine hK.out _ _ ?_; clear hK K; refine yp 14 55 (bm 16 32767) ?_; refine last_ (i := 15) (N := none) (bm 16 65535) rfl rfl (by kernel_rfl) (by decide) (fun K hK => ?_); refine skip_ (w1 := ?_) (by rfl) rfl ?_ ?_
      rotate_left
      ·
       go_simp; rfl
      obtain ⟨w13, hw13⟩ : ∃ W_, W_ = w12.setCell ⟨g, i, none⟩ (.slice (some ⟨br, 0, none⟩) n cr_) := ⟨_, rfl⟩
      rw [← hw13]; have HW13 := aM hw13; clear hw13; refine hK.out _ _ ?_; clear hK K; refine done_ (by kernel_rfl) ?_; have HS2 := aM (HSd.out.swap p.length i hrm him (W1 := w12) (W2 := w13) (by rw [HW12.out, EQ.out.1, EQ.out.2.1]; rfl) (by rw [HW13.out, EQ.out.2.2.1, EQ.out.2.2.2])); clear HS HSd HW12 HW13 hhi hfi hhr hfr hh12 hf12 hHeld; obtain ⟨R1, eR1⟩ : ∃ R1, R1 = impl_reduced.swp R p.length i := ⟨_, rfl⟩
      obtain ⟨h1, eh1⟩ : ∃ h1, h1 = (hs.set p.length (hs.getD i (0, 0))).set i (hs.getD p.length (0, 0)) := ⟨_, rfl⟩
      rw [show (R.set p.length (R.getD i [])).set i (R.getD p.length []) = R1 from eR1.symm, ← eh1] at HS2; rw [← eR1] at HSH HRW; clear eR1 eh1 EQ HCI HI hi0 d0 him hF; obtain ⟨hhr, _⟩ := HS2.out.mx.head p.length (by rw [HS2.out.len]; exact hrm); go_wp2_with (first | (go_at_call 124; (with_reducible refine (impl_shortened.calls k (fun k_ => k_ = (h1.getD p.length (0, 0)).1) _ (R1.getD p.length []) s w0 _ ?hb_ ?hr_ HSH.out).mono ?_); (case hb_ => exact HS2.out.bel); (case hr_ => exact HS2.out.mx.row p.length (by rw [HS2.out.len]; exact hrm)); rintro e w14 ⟨rfl, hy, hb, hkp⟩; have HS3 := aM (HS2.out.put p.length hrm hy hkp hb); clear hy hb hkp HS2 hhr)); clear HSH; go_loopw [63] (fun v63 w' => ∃ (i : Nat) (S : List (List Int)), v63 = .int .i64 (i : Int) ∧ Aside0 (i ≤ m) ∧ Aside0 (impl_reduced.rows k p.length c i (m - i) S = some R2) ∧ Aside0 (RdSt w0 w P0_ g cap n m w' h1 S (.slice Ap p.length cp) p)) (fun v63 _ => m - (intOf v63).toNat); case atStart => exact ⟨0, R1.set p.length s, rfl, ⟨Nat.zero_le _⟩, HRW, HS3⟩
      case round =>
       clear HRW HS3; obtain ⟨i, S, rfl, HI, HRW, HS⟩ := hrel; by_cases ci : i < m
       ·
        have d0 : decide ((i : Int) < (m : Int)) = true := decide_eq_true (by omega); have d1 : decide (i < m) = true := decide_eq_true ci; have hi0 : (0 : Int) ≤ (i : Int) := by omega
        have hib : (i : Int) ≤ 1000 := by have := HN.out; omega
        have hRW := HRW.out
        rw [show m - i = (m - (i + 1)) + 1 by omega, show impl_reduced.rows k p.length c i ((m - (i + 1)) + 1) S = if i = p.length ∨ rd (S.getD i []) (c : Int) = 0 then impl_reduced.rows k p.length c (i + 1) (m - (i + 1)) S
          else (impl_shortened.f k (impl_reduced.row (rd (S.getD p.length []) (c : Int)) (rd (S.getD i []) (c : Int)) (S.getD i []) (S.getD p.length []))).bind fun s => impl_reduced.rows k p.length c (i + 1) (m - (i + 1)) (S.set i s) from rfl] at hRW
        have hhi := (HS.out.mx.head i (by rw [HS.out.len]; exact ci)).1; have hxi := (HS.out.mx.cell i c (by rw [HS.out.len]; exact ci) cc).1; obtain ⟨bi, hbi⟩ : ∃ x, x = (h1.getD i (0, 0)).1 := ⟨_, rfl⟩
        obtain ⟨ci_, hci⟩ : ∃ x, x = (h1.getD i (0, 0)).2 := ⟨_, rfl⟩
        rw [← hbi, ← hci] at hhi; rw [← hbi] at hxi; have EQ := aM (show bi = (h1.getD i (0, 0)).1 ∧ ci_ = (h1.getD i (0, 0)).2 from ⟨hbi, hci⟩); clear hbi hci; by_cases cir : i = p.length
        ·
         have e0 : ((i : Int) == (p.length : Int)) = true := beq_iff_eq.2 (by omega); have hhp := hhi; rw [cir] at hhp; rw [if_pos (.inl cir)] at hRW; have HRW2 := aM hRW; clear hRW HRW hxi; go_wp2; go_roundw; case rel => exact ⟨i + 1, S, by go_num, ⟨ci⟩, HRW2, by first | exact HS | exact ⟨HS.out.drew _⟩⟩
         case measure => simp [intOf]; omega
        ·
         have e0 : ((i : Int) == (p.length : Int)) = false := beq_eq_false_iff_ne.2 (by omega); obtain ⟨x, ex⟩ : ∃ x, x = rd (S.getD i []) (c : Int) := ⟨_, rfl⟩
         rw [← ex] at hRW hxi; by_cases cx : x = 0
         ·
          have e1 : (x == 0) = true := beq_iff_eq.2 cx; rw [if_pos (.inr cx)] at hRW; have HRW2 := aM hRW; clear hRW HRW ex cx; go_wp2; go_roundw; case rel => exact ⟨i + 1, S, by go_num, ⟨ci⟩, HRW2, by first | exact HS | exact ⟨HS.out.drew _⟩⟩
          case measure => simp [intOf]; omega
         ·
          have e1 : (x == 0) = false := beq_eq_false_iff_ne.2 cx; rw [if_neg (fun h => h.elim cir cx)] at hRW; obtain ⟨t, hst, hRW⟩ := oB.mp hRW; have HST := aM hst; have HRW2 := aM hRW; have EX := aM ex; clear hst HRW ex cx; have hhr := (HS.out.mx.head p.length (by rw [HS.out.len]; exact hrm)).1; have hxr := (HS.out.mx.cell p.length c (by rw [HS.out.len]; exact hrm) cc).1; obtain ⟨br, hbr⟩ : ∃ x, x = (h1.getD p.length (0, 0)).1 := ⟨_, rfl⟩
          obtain ⟨cr_, hcr⟩ : ∃ x, x = (h1.getD p.length (0, 0)).2 := ⟨_, rfl⟩
          obtain ⟨a, ea⟩ : ∃ x, x = rd (S.getD p.length []) (c : Int) := ⟨_, rfl⟩
          obtain ⟨X, eX⟩ : ∃ x, x = S.getD i [] := ⟨_, rfl⟩
          obtain ⟨Y, eY⟩ : ∃ y, y = impl_reduced.row a x X (S.getD p.length []) := ⟨_, rfl⟩
          rw [← hbr, ← hcr] at hhr; rw [← hbr, ← ea] at hxr; rw [← ea, ← eX, ← eY] at HST; have hXl : X.length = n := by rw [eX]; exact HS.out.mx.rowlen i (by rw [HS.out.len]; exact ci)
          have hYl : Y.length = n := by rw [eY]; unfold impl_reduced.row; simp [hXl]
          have EQ2 := aM (show (br = (h1.getD p.length (0, 0)).1 ∧ cr_ = (h1.getD p.length (0, 0)).2) ∧ X = S.getD i [] ∧ Y = impl_reduced.row a x X (S.getD p.length []) ∧ X.length = n ∧ Y.length = n from ⟨⟨hbr, hcr⟩, eX, eY, hXl, hYl⟩); have HCIR := aM cir; clear hbr hcr ea eX eY hXl hYl cir; go_wp2; refine start_ (n := 13) (S := fun w' => w'.cell? ⟨g, p.length, none⟩ = some (.slice (some ⟨br, 0, none⟩) n cr_) ∧ w'.cell? ⟨br, c, none⟩ = some (.int .i64 a) ∧ w'.cell? ⟨bi, c, none⟩ = some (.int .i64 x)) (ds := []) (bm 13 0) (by kernel_rfl) rfl rfl ⟨hhr, hxr, hxi⟩ (fun hHeld => ?_); refine yp 0 78 (bm 13 1) ?_; refine yp 1 79 (bm 13 3) ?_; refine yp 2 80 (bm 13 7) ?_; refine yp 4 82 (bm 13 23) ?_; refine yp 7 85 (bm 13 151) ?_; refine yp 8 86 (bm 13 407) ?_; refine yp 9 87 (bm 13 919) ?_; refine yt3 3 81 (bm 13 927) hHeld ?_; refine yp 5 83 (bm 13 959) ?_; refine yt3 6 84 (bm 13 1023) hHeld ?_; refine yp 11 11 (bm 13 3071) ?_; refine yt3 10 88 (bm 13 4095) hHeld ?_; refine yp 12 12 (bm 13 8191) ?_; refine done_ (by kernel_rfl) ?_; clear hHeld hhr hxr hxi hhi; have HSd : Aside0 (RdSt w0 w P0_ g cap n m (World.drew wr) h1 S (.slice Ap p.length cp) p) := ⟨HS.out.below (eD (Below.refl _ _))⟩
          clear HS; go_wp2; go_loopw [91] (fun v91 w' => ∃ j : Nat, v91 = .int .i64 (j : Int) ∧ Aside0 (j ≤ n) ∧ Aside0 (RdSt w0 w P0_ g cap n m w' h1 (S.set i (Y.take j ++ X.drop j)) (.slice Ap p.length cp) p)) (fun v91 _ => n - (intOf v91).toNat); case atStart => exact ⟨0, rfl, ⟨Nat.zero_le _⟩, ⟨by rw [List.take_zero, List.drop_zero, List.nil_append, EQ2.out.2.1, set_getD_self]; exact HSd.out⟩⟩
          case round =>
           clear HSd; obtain ⟨j, rfl, HJ, HSj⟩ := hrel; by_cases cj : j < n
           ·
            have f0 : decide ((j : Int) < (n : Int)) = true := decide_eq_true (by omega); have f1 : decide (j < n) = true := decide_eq_true cj; have hj0 : (0 : Int) ≤ (j : Int) := by omega
            have hjb : (j : Int) ≤ 1000 := by have := HN.out; omega
            have hl := HSj.out.len; have hhr := (HSj.out.mx.head p.length (by omega)).1; have hxr := (HSj.out.mx.cell p.length j (by omega) cj).1; obtain ⟨hxi, hfi⟩ := HSj.out.mx.cell i j (by omega) cj; rw [← EQ2.out.1.1, ← EQ2.out.1.2] at hhr; rw [← EQ2.out.1.1, getD_set_ne _ _ _ _ _ HCIR.out] at hxr; rw [← EQ.out.1, getD_set_eq _ _ _ _ (by rw [List.length_set] at hl; omega)] at hxi; rw [← EQ.out.1] at hfi
            have hxj : rd (Y.take j ++ X.drop j) (j : Int) = rd X (j : Int) := by
             have := EQ2.out.2.2.2; unfold rd; rw [Int.toNat_natCast, List.getD_eq_getElem?_getD, List.getD_eq_getElem?_getD, List.getElem?_append_right (by simp; omega)]; rw [show j - (Y.take j).length = 0 by simp; omega, List.getElem?_drop, Nat.add_zero]
            rw [hxj] at hxi; clear hxj; obtain ⟨q, eq⟩ : ∃ q, q = rd (S.getD p.length []) (j : Int) := ⟨_, rfl⟩
            obtain ⟨u, eu⟩ : ∃ u, u = rd X (j : Int) := ⟨_, rfl⟩
            rw [← eq] at hxr; rw [← eu] at hxi
            have hyj : Y.getD j 0 = wrap64 ((wrap64 (a * u)) - (wrap64 (x * q))) := by
             rw [EQ2.out.2.2.1, eq, eu]; unfold impl_reduced.row; rw [List.getD_eq_getElem?_getD, List.getElem?_map, List.getElem?_range (by have := EQ2.out.2.2.2.1; omega)]; rfl
            have HYJ := aM hyj; clear hyj eq eu hl; have HS4 := aM (HSj.out.store (W1 := wr.setCell ⟨bi, j, none⟩ (.int .i64 (wrap64 ((wrap64 (a * u)) - (wrap64 (x * q)))))) i ci j (wrap64 ((wrap64 (a * u)) - (wrap64 (x * q)))) (by rw [EQ.out.1])); clear HSj; go_wp2; refine start_ (n := 20) (S := fun w' => w'.cell? ⟨g, p.length, none⟩ = some (.slice (some ⟨br, 0, none⟩) n cr_) ∧ w'.cell? ⟨br, j, none⟩ = some (.int .i64 q) ∧ w'.cell? ⟨bi, j, none⟩ = some (.int .i64 u)) (ds := [19]) (bm 20 0) (by kernel_rfl) rfl rfl ⟨hhr, hxr, hxi⟩ (fun hHeld => ?_); refine yp 0 94 (bm 20 1) ?_; refine yp 1 95 (bm 20 3) ?_; refine yp 2 96 (bm 20 7) ?_; refine yp 3 97 (bm 20 15) ?_; refine yp 4 98 (bm 20 31) ?_; refine yp 5 99 (bm 20 63) ?_; refine yp 8 102 (bm 20 319) ?_; refine yp 9 103 (bm 20 831) ?_; refine yp 10 104 (bm 20 1855) ?_; refine yp 11 105 (bm 20 3903) ?_; refine yp 13 107 (bm 20 12095) ?_; refine yt3 6 100 (bm 20 12159) hHeld ?_; refine yp 7 101 (bm 20 12287) ?_; refine yt3 12 106 (bm 20 16383) hHeld ?_; refine yp 14 108 (bm 20 32767) ?_; refine yt3 15 109 (bm 20 65535) hHeld ?_; refine yp 16 110 (bm 20 131071) ?_; refine yp 17 111 (bm 20 262143) ?_; refine yp 18 112 (bm 20 524287) ?_; refine last_ (i := 19) (N := none) (bm 20 1048575) rfl rfl (by kernel_rfl) (by decide) (fun K hK => ?_); refine skip_ (w1 := ?_) (by rfl) rfl ?_ ?_
            rotate_left
            ·
             go_simp; rfl
            refine hK.out _ _ ?_; clear hK K; refine done_ (by kernel_rfl) ?_; clear hHeld; go_wp2; go_roundw
            case rel => exact ⟨j + 1, by go_num, ⟨cj⟩, ⟨by
              have h4 := HS4.out; have := EQ2.out.2.2.2; rw [getD_set_eq _ _ _ _ (by have := h4.len; simp only [List.length_set] at this; omega), set_take_drop X Y j _ (by omega) (by omega) HYJ.out, List.set_set] at h4
              first | exact h4 | exact h4.drew _ | exact h4.below (eD (Below.refl _ _))⟩⟩
            case measure => simp [intOf]; omega
           ·
            have f0 : decide ((j : Int) < (n : Int)) = false := decide_eq_false (by omega); have f1 : decide (j < n) = false := decide_eq_false cj; have hS := HSj.out; have e2 := EQ2.out.2.2.2; rw [List.take_of_length_le (by omega), List.drop_of_length_le (by omega), List.append_nil] at hS; have hrow := hS.mx.row i (by rw [hS.len]; exact ci); rw [getD_set_eq _ _ _ _ (by have := hS.len; rw [List.length_set] at this; omega), ← EQ.out.1, ← EQ.out.2] at hrow; have HROW := aM hrow; have HS5 := aM hS; clear hrow hS e2 HSj cj; go_wp2_with (first | (go_at_call 124; (with_reducible refine (impl_shortened.calls k (fun k_ => k_ = bi) _ Y t w0 _ ?hb_ ?hr_ HST.out).mono ?_); (case hb_ => exact HS5.out.bel); (case hr_ => exact HROW.out); rintro e w16 ⟨rfl, hy, hb, hkp⟩; have HS6 := aM (HS5.out.put i ci (by rw [← EQ.out.1, ← EQ.out.2]; exact hy) (by rw [← EQ.out.1]; exact hkp) hb); clear hy hb hkp HS5 HROW)); go_roundw; case rel => exact ⟨i + 1, S.set i t, by go_num, ⟨ci⟩, HRW2, ⟨by have h6 := HS6.out; rw [List.set_set] at h6; exact h6⟩⟩
            case measure => simp [intOf]; omega
       ·
        have d0 : decide ((i : Int) < (m : Int)) = false := decide_eq_false (by omega); have d1 : decide (i < m) = false := decide_eq_false ci; have hRW := HRW.out; rw [show m - i = 0 by omega] at hRW; cases hRW
        clear HRW ci; go_wp2_with (first | ((with_reducible refine gate_builtin (b := .append) (xs := #[.tmp 117, .tmp 119]) rfl ?_); at_builtin; refine Kd.R_append (Kd.int .i64) (w0 := wr) w.heap.size rfl (.tmp 117) (.tmp 119) 24 3 (.int .i64 0) 8 rfl Try.underlying24 info3 rfl (by decide) (by omega) (.slice Ap p.length cp) p (c : Int) [.int .i64 (c : Int)] (fun _ => True) (fun _ => False) rfl rfl ?aP (fun _ hk => hk.elim) ?aF ?aO ?aB ?aS ?aL ?_; (case aP => exact rfl); (case aB => exact (by repeat (first | exact Below.refl _ _ | apply eA | apply eN | apply eD))); (case aF => exact (fun _ _ => trivial)); (case aO => exact (zR HS.out.piv)); (case aS => exact HS.out.siz.2); (case aL => have := HP.out; have := HN.out; omega); intro v139 w17 ho hb hg hat; have HS7 := aM (HS.out.app hb ho); clear ho hb hg hat)); go_roundw; case rel => exact ⟨c + 1, R2, p ++ [(c : Int)], h1, by go_num, ⟨cc⟩, ⟨by have := HP.out; simp; omega⟩, HF, HS7⟩
        case measure => simp [intOf]; omega
   ·
    have c0 : decide ((c : Int) < (n : Int)) = false := decide_eq_false (by omega); have c1 : decide (c < n) = false := decide_eq_false cc; have hF := HF.out; rw [show n - c = 0 by omega] at hF; unfold impl_reduced.cols at hF; cases hF
    have hS := HS.out; clear HF HS cc; go_wp2; go_ret; exact ⟨_, rfl, Kd.R_V (rM (Kd.R_bound hS.piv) (fun k_ hk => ⟨.inr hk.2.1, fun e => by have h1 := hS.mx.okg.2; have h2 := hk.2.1; simp only [Value.ownBlock, Option.map_some, Option.some.injEq] at e; omega⟩)), hS.len ▸ (hS.mx.mono (fun _ hk => .inl hk.1)).to_S, hS.bel, hS.kep⟩
 · rw [if_neg hc] at h; cases h
end Go.Proofs.Ytkgekmpnbhomgaa.PFnSides
