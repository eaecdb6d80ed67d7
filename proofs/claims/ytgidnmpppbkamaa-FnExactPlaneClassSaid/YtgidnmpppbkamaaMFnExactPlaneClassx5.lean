-- Laid for this claim by a program of the session's own (wip/tool/myprint.py).
import Derived.Test.YtgidnmpppbkamaaMFnExactPlaneClassx0
import Derived.Test.YtgidnmpppbkamaaMFnExactPlaneClassx4
namespace Go.Proofs.Ytgidnmpppbkamaa.PFnExactPlaneClass
open Go.RowKit Go.Proofs.YtgidnmpppbkamaaW.PrintWords Go.Proofs.YtgidnmpppbkamaaW.PrintLast Go.Proofs.YtgidnmpppbkamaaW.PrintMore
attribute [local go_sem] max2_int min2_int max_two min_two max_three min_three max_four min_four
set_option linter.unusedVariables false
set_option linter.unusedSimpArgs false
def hdr (n : Nat) : Kd (Nat × Nat) := Kd.scalar (fun p : Nat × Nat => .slice (some ⟨p.1, 0, none⟩) n p.2) (fun _ => rfl)
structure Mx (w : World) (base : Nat) (ok : Nat → Prop) (g cap n : Nat) (hs : List (Nat × Nat)) (R : List (List Int)) : Prop where
 len : hs.length = R.length
 out : (hdr n).R 22 w base (fun k => k = g) (.slice (some ⟨g, 0, none⟩) R.length cap) hs
 row : ∀ i, i < R.length → Kd.R (Kd.int .i64) 3 w base (fun k => k = (hs.getD i (0, 0)).1) (.slice (some ⟨(hs.getD i (0, 0)).1, 0, none⟩) n (hs.getD i (0, 0)).2) (R.getD i [])
 ne : ∀ i j, i < R.length → j < R.length → (hs.getD i (0, 0)).1 = (hs.getD j (0, 0)).1 → i = j
 okg : ok g
 okb : ∀ i, i < R.length → ok (hs.getD i (0, 0)).1 ∧ (hs.getD i (0, 0)).1 ≠ g
theorem mx_one (cs : List Value) (i : Nat) (v : Value) : (cs.drop (i * 1)).take 1 = [v] ↔ cs[i]? = some v := by
 rw [Nat.mul_one]
 constructor
 ·
  intro h
  have := congrArg (fun l => l[0]?) h
  simpa [List.getElem?_take, List.getElem?_drop] using this
 ·
  intro h
  obtain ⟨hi, rfl⟩ := List.getElem?_eq_some_iff.1 h
  rw [List.drop_eq_getElem_cons hi]; rfl
theorem Mx.of_S {w : World} {base m cap n : Nat} {ok : Nat → Prop} {A : Option Addr} {R : List (List Int)} (h : Kd.S (Kd.slice 3 (Kd.int .i64)) 22 w base ok (.slice A m cap) R) (hn : 1 ≤ n) (hr : ∀ r ∈ R, r.length = n) (h0 : 0 < R.length) :
  ∃ g hs, A = some ⟨g, 0, none⟩ ∧ m = R.length ∧ Mx w base ok g cap n hs R := by
 obtain ⟨g, cap', ev, hg1, hg2, cells, hgc⟩ := Kd.S_form h h0
 injection ev with eA em ec
 subst em eA ec
 obtain ⟨f, hok, inner, ho, hrep⟩ := h
 rw [List.length_zipIdx] at ho
 have H : ∀ i, i < R.length → ∃ p : Nat × Nat, inner[i]? = some (.slice (some ⟨p.1, 0, none⟩) n p.2) ∧ (ok p.1 ∧ p.1 ≠ g) ∧ f p.1 = i ∧ Kd.R (Kd.int .i64) 3 w base (fun k => k = p.1) (.slice (some ⟨p.1, 0, none⟩) n p.2) (R.getD i []) := by
  intro i hi
  have hx : R[i]? = some (R.getD i []) := by rw [List.getD_eq_getElem?_getD, List.getElem?_eq_getElem hi]; rfl
  obtain ⟨v, hv, hR⟩ := hrep.2 i (R.getD i [], i) (Kd.zip_at hx)
  have hl : (R.getD i []).length = n := by rw [List.getD_eq_getElem?_getD, List.getElem?_eq_getElem hi]; exact hr _ (List.getElem_mem hi)
  obtain ⟨b, cb, rfl, _⟩ := Kd.R_form hR (by simp only at hl ⊢; omega)
  have hob := hR.1 b rfl
  simp only at hl hob hR hv
  rw [hl] at hR hv
  refine ⟨(b, cb), (mx_one inner i _).1 hv, ⟨hob.1.1, fun e => hob.1.2 (by rw [show b = g from e]; rfl)⟩, hob.2, rM (Kd.R_tight rfl hR) (fun k hk => ?_)⟩
  have : some k = some b := hk
  exact Option.some.inj this
 obtain ⟨q, hq⟩ : ∃ q : Nat → Nat × Nat, ∀ i, i < R.length → inner[i]? = some (.slice (some ⟨(q i).1, 0, none⟩) n (q i).2) ∧ (ok (q i).1 ∧ (q i).1 ≠ g) ∧ f (q i).1 = i ∧ Kd.R (Kd.int .i64) 3 w base (fun k => k = (q i).1) (.slice (some ⟨(q i).1, 0, none⟩) n (q i).2) (R.getD i []) :=
  ⟨fun i => if h : i < R.length then Classical.choose (H i h) else (0, 0), fun i hi => by simp only [dif_pos hi]; exact Classical.choose_spec (H i hi)⟩
 have hL : ((List.range R.length).map q).length = R.length := by simp
 have hat : ∀ i, i < R.length → ((List.range R.length).map q).getD i (0, 0) = q i := fun i hi => by
  rw [List.getD_eq_getElem?_getD, List.getElem?_map, List.getElem?_range hi]; rfl
 refine ⟨g, (List.range R.length).map q, rfl, rfl, hL, ⟨fun k hk => ?_, inner, by rw [hL]; exact ho, by rw [ho.1, hL]; rfl, fun j p hj => ?_⟩, fun i hi => ?_, fun i j hi hj e => ?_, ?_, fun i hi => ?_⟩
 ·
  have : some g = some k := hk
  exact (Option.some.inj this).symm
 ·
  obtain ⟨hjl, e⟩ := List.getElem?_eq_some_iff.1 hj
  rw [hL] at hjl
  have e2 : q j = p := by rw [← e]; simp
  have h1 := (hq j hjl).1
  rw [e2] at h1
  exact (mx_one inner j _).2 h1
 ·
  rw [hat i hi]; exact (hq i hi).2.2.2
 ·
  rw [hat i hi, hat j hj] at e
  rw [← (hq i hi).2.2.1, ← (hq j hj).2.2.1, e]
 ·
  exact hok g rfl
 ·
  rw [hat i hi]; exact (hq i hi).2.1
theorem Mx.to_S {w : World} {base g cap n : Nat} {ok : Nat → Prop} {hs : List (Nat × Nat)} {R : List (List Int)} (h : Mx w base ok g cap n hs R) : Kd.S (Kd.slice 3 (Kd.int .i64)) 22 w base ok (.slice (some ⟨g, 0, none⟩) R.length cap) R := by
 obtain ⟨f, hf⟩ : ∃ f : Nat → Nat, ∀ i, i < R.length → f (hs.getD i (0, 0)).1 = i := by
  refine ⟨fun k => Classical.epsilon fun i => i < R.length ∧ (hs.getD i (0, 0)).1 = k, fun i hi => ?_⟩
  have := Classical.epsilon_spec (p := fun j => j < R.length ∧ (hs.getD j (0, 0)).1 = (hs.getD i (0, 0)).1) ⟨i, hi, rfl⟩
  exact h.ne _ _ this.1 hi this.2
 obtain ⟨_, inner, ho, hrep⟩ := h.out
 rw [h.len] at ho
 refine ⟨f, fun k hk => ?_, inner, by rw [List.length_zipIdx]; exact ho, by rw [ho.1, List.length_zipIdx]; rfl, fun j p hj => ?_⟩
 ·
  have : some g = some k := hk
  exact Option.some.inj this ▸ h.okg
 ·
  rw [List.getElem?_zipIdx, Nat.zero_add] at hj
  obtain ⟨x, hx, rfl⟩ := Option.map_eq_some_iff.1 hj
  obtain ⟨hjl, ex⟩ := List.getElem?_eq_some_iff.1 hx
  have hp : hs[j]? = some (hs.getD j (0, 0)) := by rw [List.getD_eq_getElem?_getD, List.getElem?_eq_getElem (by rw [h.len]; exact hjl)]; rfl
  have h1 := hrep.2 j _ hp
  have hrow := h.row j hjl
  rw [show R.getD j [] = x by rw [List.getD_eq_getElem?_getD, hx]; rfl] at hrow
  refine ⟨_, h1, rM hrow (fun k hk => ?_)⟩
  subst hk
  have hb := h.okb j hjl
  exact ⟨⟨hb.1, fun e => hb.2 (Option.some.inj e)⟩, hf j hjl⟩
section
variable {w w1 : World} {base g cap n : Nat} {ok : Nat → Prop} {hs : List (Nat × Nat)} {R : List (List Int)}
theorem Mx.rowlen (h : Mx w base ok g cap n hs R) (i : Nat) (hi : i < R.length) : (R.getD i []).length = n := (Kd.R_reads' (h.row i hi)).1.symm
theorem Mx.step (h : Mx w base ok g cap n hs R) (hm : ∀ k, ok k → k < w.heap.size → w1.heap[k]? = w.heap[k]?) : Mx w1 base ok g cap n hs R :=
 { h with
  out := Kd.R_step h.out (fun k hk hlt => hm k (hk ▸ h.okg) hlt)
  row := fun i hi => Kd.R_step (h.row i hi) (fun k hk hlt => hm k (hk ▸ (h.okb i hi).1) hlt) }
theorem Mx.below (h : Mx w base ok g cap n hs R) (hb : Below w.heap.size w w1) : Mx w1 base ok g cap n hs R := h.step (fun k _ hk => hb.block k hk)
theorem Mx.mono {ok' : Nat → Prop} (h : Mx w base ok g cap n hs R) (hok : ∀ k, ok k → ok' k) : Mx w base ok' g cap n hs R :=
 { h with okg := hok _ h.okg, okb := fun i hi => ⟨hok _ (h.okb i hi).1, (h.okb i hi).2⟩ }
theorem Mx.bound (h : Mx w base ok g cap n hs R) : Mx w base (fun k => ok k ∧ k < w.heap.size) g cap n hs R :=
 { h with
  okg := ⟨h.okg, Kd.R_lt h.out g rfl⟩
  okb := fun i hi => ⟨⟨(h.okb i hi).1, Kd.R_lt (h.row i hi) _ rfl⟩, (h.okb i hi).2⟩ }
theorem Mx.head (h : Mx w base ok g cap n hs R) (i : Nat) (hi : i < R.length) : w.cell? ⟨g, i, none⟩ = some (.slice (some ⟨(hs.getD i (0, 0)).1, 0, none⟩) n (hs.getD i (0, 0)).2) ∧ w.frozen? ⟨g, i, none⟩ = false := by
 have := Kd.R_celln (0, 0) h.out (i : Int) (by omega) (by omega)
 rw [Int.toNat_natCast] at this
 refine ⟨this.1.trans ?_, this.2⟩
 unfold rdOf
 rw [Int.toNat_natCast]
theorem Mx.cell (h : Mx w base ok g cap n hs R) (i j : Nat) (hi : i < R.length) (hj : j < n) : w.cell? ⟨(hs.getD i (0, 0)).1, j, none⟩ = some (.int .i64 (rd (R.getD i []) (j : Int))) ∧ w.frozen? ⟨(hs.getD i (0, 0)).1, j, none⟩ = false := by
 have := Kd.R_celln 0 (h.row i hi) (j : Int) (by omega) (by omega)
 rw [Int.toNat_natCast] at this
 refine ⟨this.1.trans ?_, this.2⟩
 rfl
theorem getD_set_ne {α : Type} (l : List α) (i j : Nat) (x d : α) (h : i ≠ j) : (l.set i x).getD j d = l.getD j d := by
 rw [List.getD_eq_getElem?_getD, List.getElem?_set_ne h, ← List.getD_eq_getElem?_getD]
theorem getD_set_eq {α : Type} (l : List α) (i : Nat) (x d : α) (h : i < l.length) : (l.set i x).getD i d = x := by
 rw [List.getD_eq_getElem?_getD, List.getElem?_set_self h]; rfl
theorem Mx.put (h : Mx w base ok g cap n hs R) (i : Nat) (hi : i < R.length) {x : List Int} (hx : Kd.R (Kd.int .i64) 3 w1 base (fun k => k = (hs.getD i (0, 0)).1) (.slice (some ⟨(hs.getD i (0, 0)).1, 0, none⟩) n (hs.getD i (0, 0)).2) x)
  (hm : ∀ k, k ≠ (hs.getD i (0, 0)).1 → k < w.heap.size → w1.heap[k]? = w.heap[k]?) : Mx w1 base ok g cap n hs (R.set i x) where
 len := by rw [List.length_set]; exact h.len
 out := by
  rw [List.length_set]
  exact Kd.R_step h.out (fun k hk hlt => hm k (fun e => (h.okb i hi).2 (e.symm.trans hk)) hlt)
 row := fun j hj => by
  rw [List.length_set] at hj
  by_cases e : i = j
  ·
   subst e; rw [getD_set_eq R i x [] hi]; exact hx
  ·
   rw [getD_set_ne R i j x [] e]
   exact Kd.R_step (h.row j hj) (fun k hk hlt => hm k (fun e2 => e (h.ne i j hi hj (e2.symm.trans hk))) hlt)
 ne := fun j k hj hk => by rw [List.length_set] at hj hk; exact h.ne j k hj hk
 okg := h.okg
 okb := fun j hj => by rw [List.length_set] at hj; exact h.okb j hj
theorem Mx.swap (h : Mx w base ok g cap n hs R) (r i : Nat) (hr : r < R.length) (hi : i < R.length) :
  Mx ((w.setCell ⟨g, r, none⟩ (.slice (some ⟨(hs.getD i (0, 0)).1, 0, none⟩) n (hs.getD i (0, 0)).2)).setCell ⟨g, i, none⟩ (.slice (some ⟨(hs.getD r (0, 0)).1, 0, none⟩) n (hs.getD r (0, 0)).2)) base ok g cap n
   ((hs.set r (hs.getD i (0, 0))).set i (hs.getD r (0, 0))) ((R.set r (R.getD i [])).set i (R.getD r [])) := by
 have hl := h.len
 have h1 := Kd.R_putn (Kd.R_putn h.out (r : Int) (hs.getD i (0, 0))) (i : Int) (hs.getD r (0, 0))
 rw [Int.toNat_natCast, Int.toNat_natCast] at h1
 obtain ⟨τ, hτ⟩ : ∃ τ : Nat → Nat, τ = fun j => if j = i then r else if j = r then i else j := ⟨_, rfl⟩
 have hat : ∀ {α : Type} (l : List α) (d : α), l.length = R.length → ∀ j, j < R.length → ((l.set r (l.getD i d)).set i (l.getD r d)).getD j d = l.getD (τ j) d := by
  intro α l d hll j hj
  rw [hτ]
  simp only
  by_cases e : j = i
  ·
   subst e; rw [if_pos rfl, getD_set_eq _ _ _ _ (by rw [List.length_set]; omega)]
  ·
   rw [if_neg e, getD_set_ne _ _ _ _ _ (fun x => e x.symm)]
   by_cases e2 : j = r
   ·
    subst e2; rw [if_pos rfl, getD_set_eq _ _ _ _ (by omega)]
   ·
    rw [if_neg e2, getD_set_ne _ _ _ _ _ (fun x => e2 x.symm)]
 have hτm : ∀ j, j < R.length → τ j < R.length := fun j hj => by rw [hτ]; simp only; split; exact hr; split; exact hi; exact hj
 have hτi : ∀ j k, τ j = τ k → j = k := fun j k e => by
  rw [hτ] at e; simp only at e
  split at e <;> split at e <;> (try split at e) <;> (try split at e) <;> omega
 have hfar : ∀ k, k ≠ g → ((w.setCell ⟨g, r, none⟩ (.slice (some ⟨(hs.getD i (0, 0)).1, 0, none⟩) n (hs.getD i (0, 0)).2)).setCell ⟨g, i, none⟩ (.slice (some ⟨(hs.getD r (0, 0)).1, 0, none⟩) n (hs.getD r (0, 0)).2)).heap[k]? = w.heap[k]? := fun k hk =>
  (Below.heap_setCell _ _ _ k hk).trans (Below.heap_setCell _ _ _ k hk)
 refine ⟨by simp only [List.length_set]; exact hl, ?_, fun j hj => ?_, fun j k hj hk e => ?_, h.okg, fun j hj => ?_⟩
 ·
  simp only [List.length_set]; exact h1
 ·
  simp only [List.length_set] at hj
  rw [hat hs (0, 0) hl j hj, hat R [] rfl j hj]
  exact Kd.R_step (h.row _ (hτm j hj)) (fun k hk _ => hfar k (fun e => (h.okb _ (hτm j hj)).2 (hk ▸ e)))
 ·
  simp only [List.length_set] at hj hk
  rw [hat hs (0, 0) hl j hj, hat hs (0, 0) hl k hk] at e
  exact hτi j k (h.ne _ _ (hτm j hj) (hτm k hk) e)
 ·
  simp only [List.length_set] at hj
  rw [hat hs (0, 0) hl j hj]
  exact h.okb _ (hτm j hj)
end
theorem set_take_drop (x y : List Int) (j : Nat) (v : Int) (hl : x.length = y.length) (hj : j < x.length) (hv : y.getD j 0 = v) : (y.take j ++ x.drop j).set j v = y.take (j + 1) ++ x.drop (j + 1) := by
 have hy : y[j]'(by omega) = v := by rw [← hv, List.getD_eq_getElem?_getD, List.getElem?_eq_getElem (by omega)]; rfl
 rw [List.set_append_right _ _ (by simp; omega), List.take_succ_eq_append_getElem (by omega), hy]
 have e : x.drop j = x[j] :: x.drop (j + 1) := List.drop_eq_getElem_cons hj
 rw [show j - (y.take j).length = 0 by simp; omega, e]
 simp only [sZ, List.append_assoc, List.cons_append, List.nil_append]
theorem set_getD_self (S : List (List Int)) (i : Nat) : S.set i (S.getD i []) = S := by
 apply List.ext_getElem?
 intro j
 by_cases e : i = j
 ·
  subst e
  by_cases h : i < S.length
  ·
   rw [List.getElem?_set_self h, List.getD_eq_getElem?_getD, List.getElem?_eq_getElem h]; rfl
  ·
   rw [List.getElem?_eq_none (by simp; omega), List.getElem?_eq_none (by omega)]
 ·
  rw [List.getElem?_set_ne e]
def spec_l4Reduced.row (a b : Int) (x p : List Int) : List Int := (List.range x.length).map fun j : Nat => wrap64 ((wrap64 (rd x (j : Int) * a)) - (wrap64 (rd p (j : Int) * b)))
def spec_l4Reduced.find (R : List (List Int)) (c : Nat) : Nat → Nat → Nat
 | i, 0 => i
 | i, d + 1 => if rd (R.getD i []) (c : Int) = 0 then spec_l4Reduced.find R c (i + 1) d else i
def spec_l4Reduced.swp (R : List (List Int)) (r i : Nat) : List (List Int) := (R.set i (R.getD r [])).set r (R.getD i [])
def spec_l4Reduced.rows (k : Nat) (r c : Nat) : Nat → Nat → List (List Int) → Option (List (List Int))
 | _, 0, R => some R
 | i, d + 1, R => if i = r ∨ rd (R.getD i []) (c : Int) = 0 then spec_l4Reduced.rows k r c (i + 1) d R
  else (spec_l4Divided.f k (spec_l4Reduced.row (rd (R.getD r []) (c : Int)) (rd (R.getD i []) (c : Int)) (R.getD i []) (R.getD r []))).bind fun s => if s.length = (R.getD i []).length then spec_l4Reduced.rows k r c (i + 1) d (R.set i s) else none
def spec_l4Reduced.cols (k : Nat) : Nat → Nat → List (List Int) → List Int → Option (List (List Int) × List Int)
 | _, 0, R, p => some (R, p)
 | c, d + 1, R, p =>
  if spec_l4Reduced.find R c p.length (R.length - p.length) = R.length then spec_l4Reduced.cols k (c + 1) d R p
  else (spec_l4Reduced.rows k p.length c 0 R.length (spec_l4Reduced.swp R p.length (spec_l4Reduced.find R c p.length (R.length - p.length)))).bind fun R2 => spec_l4Reduced.cols k (c + 1) d R2 (p ++ [(c : Int)])
def spec_l4Reduced.f (k : Nat) (l0 : List (List Int)) (a1 : Int) : Option (List (List Int) × List Int) := (spec_l2Rows.f k l0).bind fun R =>
 if ((1 ≤ a1 ∧ 1 ≤ R.length) ∧ (R.length ≤ 1000 ∧ a1 ≤ 1000)) ∧ ∀ r ∈ R, (r.length : Int) = a1 then spec_l4Reduced.cols k 0 a1.toNat R [] else none
structure SpSt (w : World) (g cap n m : Nat) (W : World) (hs : List (Nat × Nat)) (R : List (List Int)) (vp : Value) (p : List Int) : Prop where
 mx : Mx W w.heap.size (fun k => some k ≠ vp.ownBlock) g cap n hs R
 len : R.length = m
 piv : Kd.R (Kd.int .i64) 3 W w.heap.size (fun _ => True) vp p
 bel : Below w.heap.size w W
section
variable {w W W1 W2 : World} {g cap n m : Nat} {hs : List (Nat × Nat)} {R : List (List Int)} {vp : Value} {p : List Int}
theorem SpSt.below (h : SpSt w g cap n m W hs R vp p) (hb : Below W.heap.size W W1) : SpSt w g cap n m W1 hs R vp p :=
 ⟨h.mx.below hb, h.len, Kd.R_below h.piv hb, below_step h.bel hb⟩
theorem SpSt.drew1 (h : SpSt w g cap n m W hs R vp p) : SpSt w g cap n m (World.drew W) hs R vp p := h.below (eD (Below.refl _ _))
theorem SpSt.drew (h : SpSt w g cap n m W hs R vp p) (q : Nat) : SpSt w g cap n m (W.drewN q) hs R vp p := h.below (eN (Below.refl _ _) q)
theorem SpSt.store (h : SpSt w g cap n m W hs R vp p) (i : Nat) (hi : i < m) (j : Nat) (x : Int) (hW : W1 = W.setCell ⟨(hs.getD i (0, 0)).1, j, none⟩ (.int .i64 x)) : SpSt w g cap n m W1 hs (R.set i ((R.getD i []).set j x)) vp p := by
 have hi' : i < R.length := by rw [h.len]; exact hi
 have hp := Kd.R_putg (h.mx.row i hi') (j : Int) x
 rw [Int.toNat_natCast] at hp
 subst hW
 refine ⟨h.mx.put i hi' hp.1 (fun k hn hlt => hp.2.block k hlt (fun e => hn (Option.some.inj e))), by rw [List.length_set]; exact h.len, ?_, eS h.bel (Kd.R_base (h.mx.row i hi') _ rfl)⟩
 exact rM (Kd.R_far (p := ⟨(hs.getD i (0, 0)).1, j, none⟩) (rM (Kd.R_tight rfl h.piv) (fun k hk => (⟨trivial, fun e => (h.mx.okb i hi').1 (e ▸ hk)⟩ : True ∧ k ≠ (hs.getD i (0, 0)).1))) (fun k hk => hk.2) _) (fun _ _ => trivial)
theorem SpSt.swap (h : SpSt w g cap n m W hs R vp p) (r i : Nat) (hr : r < m) (hi : i < m) (hW : W1 = W.setCell ⟨g, r, none⟩ (.slice (some ⟨(hs.getD i (0, 0)).1, 0, none⟩) n (hs.getD i (0, 0)).2)) (hW2 : W2 = W1.setCell ⟨g, i, none⟩ (.slice (some ⟨(hs.getD r (0, 0)).1, 0, none⟩) n (hs.getD r (0, 0)).2)) :
  SpSt w g cap n m W2 ((hs.set r (hs.getD i (0, 0))).set i (hs.getD r (0, 0))) ((R.set r (R.getD i [])).set i (R.getD r [])) vp p := by
 subst hW hW2
 have hgb : w.heap.size ≤ g := Kd.R_base h.mx.out _ rfl
 have hP := rM (Kd.R_tight rfl h.piv) (fun k hk => (⟨trivial, fun e => h.mx.okg (e ▸ hk)⟩ : True ∧ k ≠ g))
 refine ⟨h.mx.swap r i (by rw [h.len]; exact hr) (by rw [h.len]; exact hi), by simp only [List.length_set]; exact h.len, ?_, eS (eS h.bel hgb) hgb⟩
 exact rM (Kd.R_far (p := ⟨g, i, none⟩) (Kd.R_far (p := ⟨g, r, none⟩) hP (fun k hk => hk.2) _) (fun k hk => hk.2) _) (fun _ _ => trivial)
theorem SpSt.half (h : SpSt w g cap n m W hs R vp p) (r i : Nat) (hr : r < m) (hi : i < m) (hW : W1 = W.setCell ⟨g, r, none⟩ (.slice (some ⟨(hs.getD i (0, 0)).1, 0, none⟩) n (hs.getD i (0, 0)).2)) : (∃ v, W1.cell? ⟨g, i, none⟩ = some (.slice (some ⟨(v : Nat × Nat).1, 0, none⟩) n v.2)) ∧ W1.frozen? ⟨g, i, none⟩ = false := by
 subst hW
 have hp := Kd.R_putn h.mx.out (r : Int) (hs.getD i (0, 0))
 have := Kd.R_celln (0, 0) hp (i : Int) (by omega) (by have := h.len; omega)
 rw [Int.toNat_natCast, Int.toNat_natCast] at this
 exact ⟨⟨_, this.1⟩, this.2⟩
theorem SpSt.fresh (h : SpSt w g cap n m W hs R vp p) (i : Nat) (hi : i < m) {b cb : Nat} {s : List Int} (hb : Below W.heap.size W W1) (hs' : Kd.R (Kd.int .i64) 3 W1 W.heap.size (fun _ => True) (.slice (some ⟨b, 0, none⟩) n cb) s) (hW : W2 = W1.setCell ⟨g, i, none⟩ (.slice (some ⟨b, 0, none⟩) n cb)) :
  SpSt w g cap n m W2 (hs.set i (b, cb)) (R.set i s) vp p := by
 subst hW
 have h1 := h.below hb
 have hl := h.mx.len
 have hi' : i < R.length := by rw [h.len]; exact hi
 have hgb : w.heap.size ≤ g := Kd.R_base h.mx.out _ rfl
 have hbW : W.heap.size ≤ b := Kd.R_base hs' _ rfl
 have hglt : g < W.heap.size := Kd.R_lt h.mx.out _ rfl
 have hrow := rM (Kd.R_tight rfl hs') (fun k hk => show k = b from Option.some.inj hk)
 have hout := Kd.R_putn h1.mx.out (i : Int) (b, cb)
 rw [Int.toNat_natCast] at hout
 have hlt : ∀ j, j < R.length → (hs.getD j (0, 0)).1 < W.heap.size := fun j hj => Kd.R_lt (h.mx.row j hj) _ rfl
 have hvp : ∀ k, vp.ownBlock = some k → k < W.heap.size := fun k hk => Kd.R_lt h.piv k hk
 refine ⟨⟨by simp only [List.length_set]; exact hl, by rw [List.length_set]; exact hout, fun j hj => ?_, fun j k hj hk e => ?_, h.mx.okg, fun j hj => ?_⟩, by rw [List.length_set]; exact h.len, ?_, eS h1.bel hgb⟩
 ·
  rw [List.length_set] at hj
  by_cases e : i = j
  ·
   subst e
   rw [getD_set_eq hs i _ _ (by omega), getD_set_eq R i _ _ hi']
   exact Kd.R_lower (Kd.R_far (p := ⟨g, i, none⟩) hrow (fun k hk => by simp only; omega) _) h.bel.size
  ·
   rw [getD_set_ne hs i j _ _ e, getD_set_ne R i j _ _ e]
   exact Kd.R_far (p := ⟨g, i, none⟩) (h1.mx.row j hj) (fun k hk => by have := (h.mx.okb j hj).2; simp only; omega) _
 ·
  rw [List.length_set] at hj hk
  by_cases ej : i = j
  ·
   by_cases ek : i = k
   ·
    omega
   ·
    subst ej
    rw [getD_set_eq hs i _ _ (by omega), getD_set_ne hs i k _ _ ek] at e
    have := hlt k hk
    simp only at e; omega
  ·
   by_cases ek : i = k
   ·
    subst ek
    rw [getD_set_eq hs i _ _ (by omega), getD_set_ne hs i j _ _ ej] at e
    have := hlt j hj
    simp only at e; omega
   ·
    rw [getD_set_ne hs i j _ _ ej, getD_set_ne hs i k _ _ ek] at e
    exact h.mx.ne j k hj hk e
 ·
  rw [List.length_set] at hj
  by_cases ej : i = j
  ·
   subst ej
   rw [getD_set_eq hs i _ _ (by omega)]
   refine ⟨fun e => ?_, by simp only; omega⟩
   have := hvp b e.symm
   omega
  ·
   rw [getD_set_ne hs i j _ _ ej]; exact h.mx.okb j hj
 ·
  exact rM (Kd.R_far (p := ⟨g, i, none⟩) (rM (Kd.R_tight rfl h1.piv) (fun k hk => (⟨trivial, fun e => h.mx.okg (e ▸ hk)⟩ : True ∧ k ≠ g))) (fun k hk => hk.2) _) (fun _ _ => trivial)
theorem SpSt.app (h : SpSt w g cap n m W hs R vp p) {vq : Value} {q : List Int} (hb : Below w.heap.size w W1) (hg : W.grownBy W1 vp.ownBlock) (hat : vq.ownBlock = vp.ownBlock ∨ ∃ b, vq.ownBlock = some b ∧ W.heap.size ≤ b) (hq : Kd.R (Kd.int .i64) 3 W1 w.heap.size (fun _ => True) vq q) : SpSt w g cap n m W1 hs R vq q := by
 have h1 : Mx W1 w.heap.size (fun k => some k ≠ vp.ownBlock ∧ k < W.heap.size) g cap n hs R := h.mx.bound.step (fun k hk hlt => hg.block k hlt hk.1)
 refine ⟨h1.mono (fun k hk e => ?_), h.len, hq, hb⟩
 rcases hat with e2 | ⟨b, e2, hle⟩
 ·
  exact hk.1 (e.trans e2)
 ·
  have : k = b := Option.some.inj (e.trans e2)
  omega
end
theorem divided_n (k : Nat) (A0 : Option Addr) (n c0 : Nat) (l0 : List Int) (r : List Int) (w : World) (hn : l0.length = n) (hr0 : Kd.C (Kd.int .i64) w A0 l0.length l0) (hc0 : l0.length ≤ c0) (h : spec_l4Divided.f k l0 = some r) :
  Calls Try.prog 99 #[.slice A0 n c0] w fun e w' => ∃ v0_ : Value, e = .returned (v0_) ∧ Kd.R (Kd.int .i64) 3 w' w.heap.size (fun _ => True) v0_ r ∧ Below w.heap.size w w' := by
 subst hn; exact spec_l4Divided.calls k A0 c0 l0 r w hr0 hc0 h
set_option maxHeartbeats 16000000 in
set_option maxRecDepth 100000 in
theorem spec_l4Reduced.calls (k : Nat) (A0 : Option Addr) (c0 : Nat) (l0 : List (List Int)) (a1 : Int) (r1 : List (List Int)) (r2 : List Int) (w : World) (hr0 : Kd.C (Kd.slice 3 (Kd.int .i64)) w A0 l0.length l0) (hc0 : l0.length ≤ c0) (h : spec_l4Reduced.f k l0 a1 = some (r1, r2)) :
  Calls Try.prog 96 #[.slice A0 l0.length c0, .int .i64 a1] w fun e w' => ∃ v0_ v1_ : Value, e = .returned (.tuple #[v0_, v1_]) ∧ Kd.S (Kd.slice 3 (Kd.int .i64)) 22 w' w.heap.size (fun k_ => some k_ ≠ (v1_ : Value).ownBlock) v0_ r1 ∧ Kd.R (Kd.int .i64) 3 w' w.heap.size (fun _ => True) v1_ r2 ∧ Below w.heap.size w w' := by
 unfold spec_l4Reduced.f at h
 obtain ⟨lr, hlr, h⟩ := oB.mp h
 by_cases hc : ((1 ≤ a1 ∧ 1 ≤ lr.length) ∧ (lr.length ≤ 1000 ∧ a1 ≤ 1000)) ∧ ∀ r ∈ lr, (r.length : Int) = a1
 ·
  rw [if_pos hc] at h
  have HCND := aM hc
  have HR0 := aM hr0
  have HC0 := aM hc0
  have HLR := aM hlr
  have HF0 := aM h
  clear hr0 hc0 hlr h hc
  go_enter Try.func96, Try.ntmps96
  have HBW := aM (Below.refl w.heap.size w)
  go_wp2_with (first | (go_at_call 117; (with_reducible refine (spec_l2Rows.calls k A0 c0 l0 lr _ HR0.out HC0.out HLR.out).mono ?_); rintro e w3 ⟨v17, rfl, hs3, hb3⟩; have HS3 := aM hs3; have HB3 := aM hb3; clear hs3 hb3) | ((with_reducible refine gate_dst (N := 18) rfl ?_); refine Kd.R_lit (Kd.int .i64) _ 3 ?hg (N := 18) ?hd (xs := ([] : List Int)) (inner := []) (ok := fun _ => True) (okp := fun _ => True) ?hr ?hp (fun _ hk => hk) trivial (Below.refl _ _) (Nat.le_refl _) (by simp) ?_; (case hd => rfl); (case hg => rfl); (case hr => first | (go_simp; done) | (go_simp; rfl)); (case hp => exact (Reps.none _ _)); intro v18 w5 ho4 hb4 hg_ hnew_; clear hg_ hnew_; have HS := aM (Kd.S_mono (Kd.S_elder' HS3.out (Kd.R_base ho4) hb4) (fun _ hk => hk.2)); have HO := aM (Kd.R_lower ho4 HB3.out.size); have HB := aM (below_step HB3.out hb4); clear ho4 hb4 HS3 HB3; obtain ⟨⟨⟨ha1, hm1⟩, hm2, ha2⟩, hrow⟩ := HCND.out; obtain ⟨n, hn⟩ := Int.eq_ofNat_of_zero_le (show 0 ≤ a1 by omega); obtain ⟨A, cap, hv17⟩ := Kd.S_slice HS.out))
  obtain rfl := hn
  obtain rfl := hv17
  obtain ⟨g, hs0, rfl, _, hmx0⟩ := Mx.of_S (n := n) HS.out (by omega) (fun r hr => by have := hrow r hr; omega) (by omega)
  obtain ⟨m, hm⟩ : ∃ m, m = lr.length := ⟨_, rfl⟩
  have hF := HF0.out
  rw [Int.toNat_natCast] at hF
  rw [← hm] at hm1 hm2
  have HN := aM (show (1 ≤ n ∧ n ≤ 1000) ∧ (1 ≤ m ∧ m ≤ 1000) from by omega)
  have HF := aM hF
  have HS0 : Aside0 (SpSt w g cap n m w5 hs0 lr v18 []) := ⟨hmx0, hm.symm, HO.out, HB.out⟩
  rw [← hm]
  clear hF HF0 HCND hm hmx0 HS HO HB HR0 HC0 HLR ha1 hm1 hm2 ha2 hrow HBW
  go_wp2
  go_loopw [7, 8] (fun v7 v8 w' => ∃ (c : Nat) (R : List (List Int)) (p : List Int) (hs : List (Nat × Nat)), v8 = .int .i64 (c : Int) ∧ Aside0 (c ≤ n) ∧ Aside0 (p.length ≤ c ∧ p.length ≤ m) ∧ Aside0 (spec_l4Reduced.cols k c (n - c) R p = some (r1, r2)) ∧ Aside0 (SpSt w g cap n m w' hs R v7 p)) (fun _ v8 _ => n - (intOf v8).toNat)
  case atStart => exact ⟨0, lr, [], hs0, rfl, ⟨Nat.zero_le _⟩, ⟨Nat.zero_le _, Nat.zero_le _⟩, HF, HS0⟩
  case round =>
   clear HF HS0
   obtain ⟨c, R, p, hs, rfl, HC, HP, HF, HS⟩ := hrel
   by_cases cc : c < n
   ·
    have c0 : decide ((c : Int) < (n : Int)) = true := decide_eq_true (by omega)
    have c1 : decide (c < n) = true := decide_eq_true cc
    have hc0 : (0 : Int) ≤ (c : Int) := by omega
    have hcb : (c : Int) ≤ 1000 := by have := HN.out; omega
    obtain ⟨Ap, cp, rfl⟩ := Kd.R_slice HS.out.piv
    go_upto_block 2 with (fail)
    go_cut [10] (fun v10 wc => ∃ i : Nat, v10 = .int .i64 (i : Int) ∧ Aside0 (p.length ≤ i ∧ i ≤ m) ∧ Aside0 (i = spec_l4Reduced.find R c p.length (m - p.length)) ∧ Aside0 (SpSt w g cap n m wc hs R (.slice Ap p.length cp) p))
    case first =>
     go_wp2
     go_loopw [10] (fun v10 w' => ∃ i : Nat, v10 = .int .i64 (i : Int) ∧ Aside0 (p.length ≤ i ∧ i ≤ m) ∧ Aside0 (spec_l4Reduced.find R c i (m - i) = spec_l4Reduced.find R c p.length (m - p.length)) ∧ Aside0 (SpSt w g cap n m w' hs R (.slice Ap p.length cp) p)) (fun v10 _ => m - (intOf v10).toNat)
     case atStart => exact ⟨p.length, rfl, ⟨Nat.le_refl _, HP.out.2⟩, ⟨rfl⟩, HS⟩
     case round =>
      obtain ⟨i, rfl, HI, HE, HSi⟩ := hrel
      by_cases ci : i < m
      ·
       have d0 : decide ((i : Int) < (m : Int)) = true := decide_eq_true (by omega)
       have d1 : decide (i < m) = true := decide_eq_true ci
       have hi0 : (0 : Int) ≤ (i : Int) := by omega
       have hib : (i : Int) ≤ 1000 := by have := HN.out; omega
       have hl := HSi.out.len
       have hh := (HSi.out.mx.head i (by omega)).1
       have hx := (HSi.out.mx.cell i c (by omega) cc).1
       have hE := HE.out
       obtain ⟨bi, hbi⟩ : ∃ x, x = (hs.getD i (0, 0)).1 := ⟨_, rfl⟩
       obtain ⟨ci_, hci⟩ : ∃ x, x = (hs.getD i (0, 0)).2 := ⟨_, rfl⟩
       obtain ⟨x, ex⟩ : ∃ x, x = rd (R.getD i []) (c : Int) := ⟨_, rfl⟩
       rw [← hbi, ← hci] at hh
       rw [← hbi, ← ex] at hx
       clear hbi hci
       rw [show m - i = (m - (i + 1)) + 1 by omega] at hE
       rw [show spec_l4Reduced.find R c i ((m - (i + 1)) + 1) = if rd (R.getD i []) (c : Int) = 0 then spec_l4Reduced.find R c (i + 1) (m - (i + 1)) else i from rfl, ← ex] at hE
       clear ex
       by_cases cx : x = 0
       ·
        have e0 : (x == 0) = true := beq_iff_eq.2 cx
        rw [if_pos cx] at hE
        have HE2 := aM hE
        clear hE cx
        go_wp2
        go_roundw
        case rel => exact ⟨i + 1, by go_num, ⟨by have := HI.out; omega⟩, HE2, by first | exact HSi | exact ⟨HSi.out.drew _⟩⟩
        case measure => simp [intOf]; omega
       ·
        have e0 : (x == 0) = false := beq_eq_false_iff_ne.2 cx
        rw [if_neg cx] at hE
        have HE2 := aM hE
        clear hE cx
        go_wp2
        go_meet
        case rel => exact ⟨i, rfl, HI, HE2, by first | exact HSi | exact ⟨HSi.out.drew _⟩⟩
      ·
       have d0 : decide ((i : Int) < (m : Int)) = false := decide_eq_false (by omega)
       have d1 : decide (i < m) = false := decide_eq_false ci
       have hE := HE.out
       rw [show m - i = 0 by omega] at hE
       rw [show spec_l4Reduced.find R c i 0 = i from rfl] at hE
       have HE2 := aM hE
       clear hE ci
       go_wp2
       go_meet
       case rel => exact ⟨i, rfl, HI, HE2, by first | exact HSi | exact ⟨HSi.out.drew _⟩⟩
    case rest =>
     clear HS
     obtain ⟨i, rfl, HI, HE, HS⟩ := hcut
     have hF := HF.out
     rw [show n - c = (n - (c + 1)) + 1 by omega] at hF
     unfold spec_l4Reduced.cols at hF
     rw [HS.out.len, ← HE.out] at hF
     clear HF HE
     by_cases ci : i = m
     ·
      have d0 : ((i : Int) == (m : Int)) = true := beq_iff_eq.2 (by omega)
      rw [if_pos ci] at hF
      have HF := aM hF
      clear hF
      go_wp2
      go_roundw
      case rel => exact ⟨c + 1, R, p, hs, by go_num, ⟨cc⟩, ⟨by have := HP.out; omega, HP.out.2⟩, HF, by first | exact HS | exact ⟨HS.out.drew _⟩⟩
      case measure => simp [intOf]; omega
     ·
      have d0 : ((i : Int) == (m : Int)) = false := beq_eq_false_iff_ne.2 (by omega)
      rw [if_neg ci] at hF
      obtain ⟨R2, hrw, hF⟩ := oB.mp hF
      have him : i < m := by have := HI.out; omega
      have hrm : p.length < m := by have := HI.out; omega
      have HRW := aM hrw
      have HF := aM hF
      clear hrw hF ci
      have hi0 : (0 : Int) ≤ (i : Int) := by omega
      have hr0 : (0 : Int) ≤ (p.length : Int) := by omega
      have hib : (i : Int) ≤ 1000 := by have := HN.out; omega
      obtain ⟨hhi, hfi⟩ := HS.out.mx.head i (by rw [HS.out.len]; exact him)
      obtain ⟨hhr, hfr⟩ := HS.out.mx.head p.length (by rw [HS.out.len]; exact hrm)
      obtain ⟨bi, hbi⟩ : ∃ x, x = (hs.getD i (0, 0)).1 := ⟨_, rfl⟩
      obtain ⟨ci_, hci⟩ : ∃ x, x = (hs.getD i (0, 0)).2 := ⟨_, rfl⟩
      obtain ⟨br, hbr⟩ : ∃ x, x = (hs.getD p.length (0, 0)).1 := ⟨_, rfl⟩
      obtain ⟨cr_, hcr⟩ : ∃ x, x = (hs.getD p.length (0, 0)).2 := ⟨_, rfl⟩
      rw [← hbi, ← hci] at hhi
      rw [← hbr, ← hcr] at hhr
      have EQ := aM (show (bi = (hs.getD i (0, 0)).1 ∧ ci_ = (hs.getD i (0, 0)).2) ∧ br = (hs.getD p.length (0, 0)).1 ∧ cr_ = (hs.getD p.length (0, 0)).2 from ⟨⟨hbi, hci⟩, hbr, hcr⟩)
      clear hbi hci hbr hcr
      go_upto_region 12 with (first | ((with_reducible refine gate_store (t := 22) (p := 57) rfl ?_); refine store_event (t := 22) (p := 57) (v := ?vo) (w1 := (wc.setCell ⟨g, i, none⟩ (.slice (some ⟨br, 0, none⟩) n cr_))) ?hg ?ho ?hn ?hr ?_; (case ho => rfl); (case hg => rfl); (case hn => rfl); (case hr => first | (go_simp; done) | (go_simp; rfl)); intro w12 hw12))
      obtain ⟨⟨v12, hh12⟩, hf12⟩ := HS.out.half i p.length him hrm (W1 := w12) (by rw [hw12, EQ.out.2.1, EQ.out.2.2])
      have HW12 := aM hw12
      clear hw12 hhr hfr hhi hfi
      go_wp2
      obtain ⟨w13, hw13⟩ : ∃ W_, W_ = w12.setCell ⟨g, p.length, none⟩ (.slice (some ⟨bi, 0, none⟩) n ci_) := ⟨_, rfl⟩
      rw [← hw13]
      have HS2 := aM (HS.out.swap i p.length him hrm (W1 := w12) (W2 := w13) (by rw [HW12.out, EQ.out.2.1, EQ.out.2.2]) (by rw [hw13, EQ.out.1.1, EQ.out.1.2]))
      clear hw13 hh12 hf12
      obtain ⟨R1, eR1⟩ : ∃ R1, R1 = spec_l4Reduced.swp R p.length i := ⟨_, rfl⟩
      obtain ⟨h1, eh1⟩ : ∃ h1, h1 = (hs.set i (hs.getD p.length (0, 0))).set p.length (hs.getD i (0, 0)) := ⟨_, rfl⟩
      rw [show (R.set i (R.getD p.length [])).set p.length (R.getD i []) = R1 from eR1.symm, ← eh1] at HS2
      rw [← eR1] at HRW
      clear eR1 eh1 EQ HI hi0 d0 him hF HS HW12
      go_loopw [12] (fun v12 w' => ∃ (i : Nat) (S : List (List Int)) (h1 : List (Nat × Nat)), v12 = .int .i64 (i : Int) ∧ Aside0 (i ≤ m) ∧ Aside0 (spec_l4Reduced.rows k p.length c i (m - i) S = some R2) ∧ Aside0 (SpSt w g cap n m w' h1 S (.slice Ap p.length cp) p)) (fun v12 _ => m - (intOf v12).toNat)
      case atStart => exact ⟨0, R1, h1, rfl, ⟨Nat.zero_le _⟩, HRW, HS2⟩
      case round =>
       clear HRW HS2
       obtain ⟨i, S, h1, rfl, HI, HRW, HS⟩ := hrel
       by_cases ci : i < m
       ·
        have d0 : decide ((i : Int) < (m : Int)) = true := decide_eq_true (by omega)
        have d1 : decide (i < m) = true := decide_eq_true ci
        have hi0 : (0 : Int) ≤ (i : Int) := by omega
        have hib : (i : Int) ≤ 1000 := by have := HN.out; omega
        have hRW := HRW.out
        rw [show m - i = (m - (i + 1)) + 1 by omega, show spec_l4Reduced.rows k p.length c i ((m - (i + 1)) + 1) S = if i = p.length ∨ rd (S.getD i []) (c : Int) = 0 then spec_l4Reduced.rows k p.length c (i + 1) (m - (i + 1)) S
         else (spec_l4Divided.f k (spec_l4Reduced.row (rd (S.getD p.length []) (c : Int)) (rd (S.getD i []) (c : Int)) (S.getD i []) (S.getD p.length []))).bind fun s => if s.length = (S.getD i []).length then spec_l4Reduced.rows k p.length c (i + 1) (m - (i + 1)) (S.set i s) else none from rfl] at hRW
        obtain ⟨hhi, hfi⟩ := HS.out.mx.head i (by rw [HS.out.len]; exact ci)
        have hxi := (HS.out.mx.cell i c (by rw [HS.out.len]; exact ci) cc).1
        obtain ⟨bi, hbi⟩ : ∃ x, x = (h1.getD i (0, 0)).1 := ⟨_, rfl⟩
        obtain ⟨ci_, hci⟩ : ∃ x, x = (h1.getD i (0, 0)).2 := ⟨_, rfl⟩
        rw [← hbi, ← hci] at hhi
        rw [← hbi] at hxi
        have EQ := aM (show bi = (h1.getD i (0, 0)).1 ∧ ci_ = (h1.getD i (0, 0)).2 from ⟨hbi, hci⟩)
        clear hbi hci
        by_cases cir : i = p.length
        ·
         have e0 : ((i : Int) == (p.length : Int)) = true := beq_iff_eq.2 (by omega)
         have hhp := hhi
         rw [cir] at hhp
         rw [if_pos (.inl cir)] at hRW
         have HRW2 := aM hRW
         clear hRW HRW hxi
         go_wp2
         go_roundw
         case rel => exact ⟨i + 1, S, h1, by go_num, ⟨ci⟩, HRW2, by first | exact HS | exact ⟨HS.out.drew _⟩⟩
         case measure => simp [intOf]; omega
        ·
         have e0 : ((i : Int) == (p.length : Int)) = false := beq_eq_false_iff_ne.2 (by omega)
         obtain ⟨x, ex⟩ : ∃ x, x = rd (S.getD i []) (c : Int) := ⟨_, rfl⟩
         rw [← ex] at hRW hxi
         by_cases cx : x = 0
         ·
          have e1 : (x == 0) = true := beq_iff_eq.2 cx
          rw [if_pos (.inr cx)] at hRW
          have HRW2 := aM hRW
          clear hRW HRW ex cx
          go_wp2
          go_roundw
          case rel => exact ⟨i + 1, S, h1, by go_num, ⟨ci⟩, HRW2, by first | exact HS | exact ⟨HS.out.drew _⟩⟩
          case measure => simp [intOf]; omega
         ·
          have e1 : (x == 0) = false := beq_eq_false_iff_ne.2 cx
          rw [if_neg (fun h => h.elim cir cx)] at hRW
          obtain ⟨t, hst, hRW⟩ := oB.mp hRW
          by_cases ctl : t.length = (S.getD i []).length
          ·
           rw [if_pos ctl] at hRW
           have HST := aM hst
           have HRW2 := aM hRW
           have EX := aM ex
           have HTL := aM ctl
           clear hst HRW ex cx ctl
           have hhr := (HS.out.mx.head p.length (by rw [HS.out.len]; exact hrm)).1
           have hxr := (HS.out.mx.cell p.length c (by rw [HS.out.len]; exact hrm) cc).1
           obtain ⟨br, hbr⟩ : ∃ x, x = (h1.getD p.length (0, 0)).1 := ⟨_, rfl⟩
           obtain ⟨cr_, hcr⟩ : ∃ x, x = (h1.getD p.length (0, 0)).2 := ⟨_, rfl⟩
           obtain ⟨a, ea⟩ : ∃ x, x = rd (S.getD p.length []) (c : Int) := ⟨_, rfl⟩
           obtain ⟨X, eX⟩ : ∃ x, x = S.getD i [] := ⟨_, rfl⟩
           obtain ⟨Y, eY⟩ : ∃ y, y = spec_l4Reduced.row a x X (S.getD p.length []) := ⟨_, rfl⟩
           rw [← hbr, ← hcr] at hhr
           rw [← hbr, ← ea] at hxr
           rw [← ea, ← eX, ← eY] at HST
           have hXl : X.length = n := by rw [eX]; exact HS.out.mx.rowlen i (by rw [HS.out.len]; exact ci)
           have hYl : Y.length = n := by rw [eY]; unfold spec_l4Reduced.row; simp [hXl]
           have htl : t.length = n := by have := HTL.out; rw [← eX] at this; omega
           have EQ2 := aM (show (br = (h1.getD p.length (0, 0)).1 ∧ cr_ = (h1.getD p.length (0, 0)).2) ∧ X = S.getD i [] ∧ Y = spec_l4Reduced.row a x X (S.getD p.length []) ∧ X.length = n ∧ Y.length = n ∧ t.length = n from ⟨⟨hbr, hcr⟩, eX, eY, hXl, hYl, htl⟩)
           have HCIR := aM cir
           clear hbr hcr ea eX eY hXl hYl htl cir HTL
           go_wp2
           refine start_ (n := 16) (S := fun w' => w'.cell? ⟨g, p.length, none⟩ = some (.slice (some ⟨br, 0, none⟩) n cr_) ∧ w'.cell? ⟨br, c, none⟩ = some (.int .i64 a) ∧ w'.cell? ⟨g, i, none⟩ = some (.slice (some ⟨bi, 0, none⟩) n ci_) ∧ w'.cell? ⟨bi, c, none⟩ = some (.int .i64 x)) (ds := []) (bm 16 0) (by kernel_rfl) rfl rfl ⟨hhr, hxr, hhi, hxi⟩ (fun hHeld => ?_)
           refine pure_ (i := 0) (N := some 81) (v := ?_) (a' := ?_) (bm 16 1) rfl rfl (by kernel_rfl) (fun _ _ _ h => h) (Or.inl ⟨by rfl, ?_⟩) ?_ ?_
           rotate_left
           ·
            intro w'
            go_simp
            with_reducible rfl
           rotate_left
           ·
            simp only [Act.put, sA, sZ, sU, i64_w, i32_w]
            rfl
           refine pure_ (i := 1) (N := some 82) (v := ?_) (a' := ?_) (bm 16 3) rfl rfl (by kernel_rfl) (fun _ _ _ h => h) (Or.inl ⟨by rfl, ?_⟩) ?_ ?_
           rotate_left
           ·
            intro w'
            go_simp
            with_reducible rfl
           rotate_left
           ·
            simp only [Act.put, sA, sZ, sU, i64_w, i32_w]
            rfl
           refine pure_ (i := 2) (N := some 83) (v := ?_) (a' := ?_) (bm 16 7) rfl rfl (by kernel_rfl) (fun _ _ _ h => h) (Or.inl ⟨by rfl, ?_⟩) ?_ ?_
           rotate_left
           ·
            intro w'
            go_simp
            with_reducible rfl
           rotate_left
           ·
            simp only [Act.put, sA, sZ, sU, i64_w, i32_w]
            rfl
           refine pure_ (i := 4) (N := some 85) (v := ?_) (a' := ?_) (bm 16 23) rfl rfl (by kernel_rfl) (fun _ _ _ h => h) (Or.inl ⟨by rfl, ?_⟩) ?_ ?_
           rotate_left
           ·
            intro w'
            go_simp
            with_reducible rfl
           rotate_left
           ·
            simp only [Act.put, sA, sZ, sU, i64_w, i32_w]
            rfl
           refine pure_ (i := 7) (N := some 88) (v := ?_) (a' := ?_) (bm 16 151) rfl rfl (by kernel_rfl) (fun _ _ _ h => h) (Or.inl ⟨by rfl, ?_⟩) ?_ ?_
           rotate_left
           ·
            intro w'
            go_simp
            with_reducible rfl
           rotate_left
           ·
            simp only [Act.put, sA, sZ, sU, i64_w, i32_w]
            rfl
           refine pure_ (i := 8) (N := some 89) (v := ?_) (a' := ?_) (bm 16 407) rfl rfl (by kernel_rfl) (fun _ _ _ h => h) (Or.inl ⟨by rfl, ?_⟩) ?_ ?_
           rotate_left
           ·
            intro w'
            go_simp
            with_reducible rfl
           rotate_left
           ·
            simp only [Act.put, sA, sZ, sU, i64_w, i32_w]
            rfl
           refine pure_ (i := 9) (N := some 90) (v := ?_) (a' := ?_) (bm 16 919) rfl rfl (by kernel_rfl) (fun _ _ _ h => h) (Or.inl ⟨by rfl, ?_⟩) ?_ ?_
           rotate_left
           ·
            intro w'
            go_simp
            with_reducible rfl
           rotate_left
           ·
            simp only [Act.put, sA, sZ, sU, i64_w, i32_w]
            rfl
           refine pure_ (i := 11) (N := some 92) (v := ?_) (a' := ?_) (bm 16 2967) rfl rfl (by kernel_rfl) (fun _ _ _ h => h) (Or.inl ⟨by rfl, ?_⟩) ?_ ?_
           rotate_left
           ·
            intro w'
            go_simp
            with_reducible rfl
           rotate_left
           ·
            simp only [Act.put, sA, sZ, sU, i64_w, i32_w]
            rfl
           refine take_ (i := 3) (N := some 84) (v := ?_) (a' := ?_) (bm 16 2975) rfl rfl (by kernel_rfl) (fun _ _ _ h => h) (Or.inl ⟨by rfl, ?_⟩) hHeld ?_ ?_
           rotate_left
           ·
            rintro w' ⟨s0, s1, s2, s3⟩
            first | (go_simp; with_reducible rfl) | (simp only [add_plain] at s0 s1 s2 s3; go_simp; with_reducible rfl)
           rotate_left
           ·
            simp only [Act.put, sA, sZ, sU, i64_w, i32_w]
            rfl
           refine pure_ (i := 5) (N := some 86) (v := ?_) (a' := ?_) (bm 16 3007) rfl rfl (by kernel_rfl) (fun _ _ _ h => h) (Or.inl ⟨by rfl, ?_⟩) ?_ ?_
           rotate_left
           ·
            intro w'
            go_simp
            with_reducible rfl
           rotate_left
           ·
            simp only [Act.put, sA, sZ, sU, i64_w, i32_w]
            rfl
           refine take_ (i := 6) (N := some 87) (v := ?_) (a' := ?_) (bm 16 3071) rfl rfl (by kernel_rfl) (fun _ _ _ h => h) (Or.inl ⟨by rfl, ?_⟩) hHeld ?_ ?_
           rotate_left
           ·
            rintro w' ⟨s0, s1, s2, s3⟩
            first | (go_simp; with_reducible rfl) | (simp only [add_plain] at s0 s1 s2 s3; go_simp; with_reducible rfl)
           rotate_left
           ·
            simp only [Act.put, sA, sZ, sU, i64_w, i32_w]
            rfl
           refine pure_ (i := 14) (N := some 13) (v := ?_) (a' := ?_) (bm 16 19455) rfl rfl (by kernel_rfl) (fun _ _ _ h => h) (Or.inl ⟨by rfl, ?_⟩) ?_ ?_
           rotate_left
           ·
            intro w'
            go_simp
            with_reducible rfl
           rotate_left
           ·
            simp only [Act.put, sA, sZ, sU, i64_w, i32_w]
            rfl
           refine take_ (i := 10) (N := some 91) (v := ?_) (a' := ?_) (bm 16 20479) rfl rfl (by kernel_rfl) (fun _ _ _ h => h) (Or.inl ⟨by rfl, ?_⟩) hHeld ?_ ?_
           rotate_left
           ·
            rintro w' ⟨s0, s1, s2, s3⟩
            first | (go_simp; with_reducible rfl) | (simp only [add_plain] at s0 s1 s2 s3; go_simp; with_reducible rfl)
           rotate_left
           ·
            simp only [Act.put, sA, sZ, sU, i64_w, i32_w]
            rfl
           refine pure_ (i := 12) (N := some 93) (v := ?_) (a' := ?_) (bm 16 24575) rfl rfl (by kernel_rfl) (fun _ _ _ h => h) (Or.inl ⟨by rfl, ?_⟩) ?_ ?_
           rotate_left
           ·
            intro w'
            go_simp
            with_reducible rfl
           rotate_left
           ·
            simp only [Act.put, sA, sZ, sU, i64_w, i32_w]
            rfl
           refine take_ (i := 13) (N := some 94) (v := ?_) (a' := ?_) (bm 16 32767) rfl rfl (by kernel_rfl) (fun _ _ _ h => h) (Or.inl ⟨by rfl, ?_⟩) hHeld ?_ ?_
           rotate_left
           ·
            rintro w' ⟨s0, s1, s2, s3⟩
            first | (go_simp; with_reducible rfl) | (simp only [add_plain] at s0 s1 s2 s3; go_simp; with_reducible rfl)
           rotate_left
           ·
            simp only [Act.put, sA, sZ, sU, i64_w, i32_w]
            rfl
           refine pure_ (i := 15) (N := some 14) (v := ?_) (a' := ?_) (bm 16 65535) rfl rfl (by kernel_rfl) (fun _ _ _ h => h) (Or.inl ⟨by rfl, ?_⟩) ?_ ?_
           rotate_left
           ·
            intro w'
            go_simp
            with_reducible rfl
           rotate_left
           ·
            simp only [Act.put, sA, sZ, sU, i64_w, i32_w]
            rfl
           refine done_ (by kernel_rfl) ?_
           clear hHeld hhr hxr hxi hhi hfi
           have HSd : Aside0 (SpSt w g cap n m (World.drew wr) h1 S (.slice Ap p.length cp) p) := ⟨HS.out.drew1⟩
           clear HS
           go_wp2
           go_loopw [15] (fun v15 w' => ∃ j : Nat, v15 = .int .i64 (j : Int) ∧ Aside0 (j ≤ n) ∧ Aside0 (SpSt w g cap n m w' h1 (S.set i (Y.take j ++ X.drop j)) (.slice Ap p.length cp) p)) (fun v15 _ => n - (intOf v15).toNat)
           case atStart => exact ⟨0, rfl, ⟨Nat.zero_le _⟩, ⟨by rw [List.take_zero, List.drop_zero, List.nil_append, EQ2.out.2.1, set_getD_self]; exact HSd.out⟩⟩
           case round =>
            clear HSd
            obtain ⟨j, rfl, HJ, HSj⟩ := hrel
            by_cases cj : j < n
            ·
             have f0 : decide ((j : Int) < (n : Int)) = true := decide_eq_true (by omega)
             have f1 : decide (j < n) = true := decide_eq_true cj
             have hj0 : (0 : Int) ≤ (j : Int) := by omega
             have hjb : (j : Int) ≤ 1000 := by have := HN.out; omega
             have hl := HSj.out.len
             have hhr := (HSj.out.mx.head p.length (by omega)).1
             have hhi := (HSj.out.mx.head i (by omega)).1
             have hxr := (HSj.out.mx.cell p.length j (by omega) cj).1
             obtain ⟨hxi, hfi⟩ := HSj.out.mx.cell i j (by omega) cj
             rw [← EQ2.out.1.1, ← EQ2.out.1.2] at hhr
             rw [← EQ.out.1, ← EQ.out.2] at hhi
             rw [← EQ2.out.1.1, getD_set_ne _ _ _ _ _ HCIR.out] at hxr
             rw [← EQ.out.1, getD_set_eq _ _ _ _ (by rw [List.length_set] at hl; omega)] at hxi
             rw [← EQ.out.1] at hfi
             have hxj : rd (Y.take j ++ X.drop j) (j : Int) = rd X (j : Int) := by
              have := EQ2.out.2.2.2
              unfold rd
              rw [Int.toNat_natCast, List.getD_eq_getElem?_getD, List.getD_eq_getElem?_getD, List.getElem?_append_right (by simp; omega)]
              rw [show j - (Y.take j).length = 0 by simp; omega, List.getElem?_drop, Nat.add_zero]
             rw [hxj] at hxi
             clear hxj
             obtain ⟨q, eq⟩ : ∃ q, q = rd (S.getD p.length []) (j : Int) := ⟨_, rfl⟩
             obtain ⟨u, eu⟩ : ∃ u, u = rd X (j : Int) := ⟨_, rfl⟩
             rw [← eq] at hxr
             rw [← eu] at hxi
             have hyj : Y.getD j 0 = wrap64 ((wrap64 (u * a)) - (wrap64 (q * x))) := by
              rw [EQ2.out.2.2.1, eq, eu]
              unfold spec_l4Reduced.row
              rw [List.getD_eq_getElem?_getD, List.getElem?_map, List.getElem?_range (by have := EQ2.out.2.2.2.1; omega)]
              rfl
             have HYJ := aM hyj
             clear hyj eq eu hl
             have HS4 := aM (HSj.out.store (W1 := wr.setCell ⟨bi, j, none⟩ (.int .i64 (wrap64 ((wrap64 (u * a)) - (wrap64 (q * x)))))) i ci j (wrap64 ((wrap64 (u * a)) - (wrap64 (q * x)))) (by rw [EQ.out.1]))
             clear HSj
             go_wp2
             refine start_ (n := 26) (S := fun w' => w'.cell? ⟨g, p.length, none⟩ = some (.slice (some ⟨br, 0, none⟩) n cr_) ∧ w'.cell? ⟨br, j, none⟩ = some (.int .i64 q) ∧ w'.cell? ⟨g, i, none⟩ = some (.slice (some ⟨bi, 0, none⟩) n ci_) ∧ w'.cell? ⟨bi, j, none⟩ = some (.int .i64 u)) (ds := [25]) (bm 26 0) (by kernel_rfl) rfl rfl ⟨hhr, hxr, hhi, hxi⟩ (fun hHeld => ?_)
             refine pure_ (i := 0) (N := some 100) (v := ?_) (a' := ?_) (bm 26 1) rfl rfl (by kernel_rfl) (fun _ _ _ h => h) (Or.inl ⟨by rfl, ?_⟩) ?_ ?_
             rotate_left
             ·
              intro w'
              go_simp
              with_reducible rfl
             rotate_left
             ·
              simp only [Act.put, sA, sZ, sU, i64_w, i32_w]
              rfl
             refine pure_ (i := 1) (N := some 101) (v := ?_) (a' := ?_) (bm 26 3) rfl rfl (by kernel_rfl) (fun _ _ _ h => h) (Or.inl ⟨by rfl, ?_⟩) ?_ ?_
             rotate_left
             ·
              intro w'
              go_simp
              with_reducible rfl
             rotate_left
             ·
              simp only [Act.put, sA, sZ, sU, i64_w, i32_w]
              rfl
             refine pure_ (i := 2) (N := some 102) (v := ?_) (a' := ?_) (bm 26 7) rfl rfl (by kernel_rfl) (fun _ _ _ h => h) (Or.inl ⟨by rfl, ?_⟩) ?_ ?_
             rotate_left
             ·
              intro w'
              go_simp
              with_reducible rfl
             rotate_left
             ·
              simp only [Act.put, sA, sZ, sU, i64_w, i32_w]
              rfl
             refine pure_ (i := 4) (N := some 104) (v := ?_) (a' := ?_) (bm 26 23) rfl rfl (by kernel_rfl) (fun _ _ _ h => h) (Or.inl ⟨by rfl, ?_⟩) ?_ ?_
             rotate_left
             ·
              intro w'
              go_simp
              with_reducible rfl
             rotate_left
             ·
              simp only [Act.put, sA, sZ, sU, i64_w, i32_w]
              rfl
             refine pure_ (i := 5) (N := some 105) (v := ?_) (a' := ?_) (bm 26 55) rfl rfl (by kernel_rfl) (fun _ _ _ h => h) (Or.inl ⟨by rfl, ?_⟩) ?_ ?_
             rotate_left
             ·
              intro w'
              go_simp
              with_reducible rfl
             rotate_left
             ·
              simp only [Act.put, sA, sZ, sU, i64_w, i32_w]
              rfl
             refine pure_ (i := 6) (N := some 106) (v := ?_) (a' := ?_) (bm 26 119) rfl rfl (by kernel_rfl) (fun _ _ _ h => h) (Or.inl ⟨by rfl, ?_⟩) ?_ ?_
             rotate_left
             ·
              intro w'
              go_simp
              with_reducible rfl
             rotate_left
             ·
              simp only [Act.put, sA, sZ, sU, i64_w, i32_w]
              rfl
             refine pure_ (i := 7) (N := some 107) (v := ?_) (a' := ?_) (bm 26 247) rfl rfl (by kernel_rfl) (fun _ _ _ h => h) (Or.inl ⟨by rfl, ?_⟩) ?_ ?_
             rotate_left
             ·
              intro w'
              go_simp
              with_reducible rfl
             rotate_left
             ·
              simp only [Act.put, sA, sZ, sU, i64_w, i32_w]
              rfl
             refine pure_ (i := 9) (N := some 109) (v := ?_) (a' := ?_) (bm 26 759) rfl rfl (by kernel_rfl) (fun _ _ _ h => h) (Or.inl ⟨by rfl, ?_⟩) ?_ ?_
             rotate_left
             ·
              intro w'
              go_simp
              with_reducible rfl
             rotate_left
             ·
              simp only [Act.put, sA, sZ, sU, i64_w, i32_w]
              rfl
             refine pure_ (i := 12) (N := some 112) (v := ?_) (a' := ?_) (bm 26 4855) rfl rfl (by kernel_rfl) (fun _ _ _ h => h) (Or.inl ⟨by rfl, ?_⟩) ?_ ?_
             rotate_left
             ·
              intro w'
              go_simp
              with_reducible rfl
             rotate_left
             ·
              simp only [Act.put, sA, sZ, sU, i64_w, i32_w]
              rfl
             refine pure_ (i := 14) (N := some 114) (v := ?_) (a' := ?_) (bm 26 21239) rfl rfl (by kernel_rfl) (fun _ _ _ h => h) (Or.inl ⟨by rfl, ?_⟩) ?_ ?_
             rotate_left
             ·
              intro w'
              go_simp
              with_reducible rfl
             rotate_left
             ·
              simp only [Act.put, sA, sZ, sU, i64_w, i32_w]
              rfl
             refine pure_ (i := 15) (N := some 115) (v := ?_) (a' := ?_) (bm 26 54007) rfl rfl (by kernel_rfl) (fun _ _ _ h => h) (Or.inl ⟨by rfl, ?_⟩) ?_ ?_
             rotate_left
             ·
              intro w'
              go_simp
              with_reducible rfl
             rotate_left
             ·
              simp only [Act.put, sA, sZ, sU, i64_w, i32_w]
              rfl
             refine pure_ (i := 16) (N := some 116) (v := ?_) (a' := ?_) (bm 26 119543) rfl rfl (by kernel_rfl) (fun _ _ _ h => h) (Or.inl ⟨by rfl, ?_⟩) ?_ ?_
             rotate_left
             ·
              intro w'
              go_simp
              with_reducible rfl
             rotate_left
             ·
              simp only [Act.put, sA, sZ, sU, i64_w, i32_w]
              rfl
             refine pure_ (i := 18) (N := some 118) (v := ?_) (a' := ?_) (bm 26 381687) rfl rfl (by kernel_rfl) (fun _ _ _ h => h) (Or.inl ⟨by rfl, ?_⟩) ?_ ?_
             rotate_left
             ·
              intro w'
              go_simp
              with_reducible rfl
             rotate_left
             ·
              simp only [Act.put, sA, sZ, sU, i64_w, i32_w]
              rfl
             refine pure_ (i := 21) (N := some 121) (v := ?_) (a' := ?_) (bm 26 2478839) rfl rfl (by kernel_rfl) (fun _ _ _ h => h) (Or.inl ⟨by rfl, ?_⟩) ?_ ?_
             rotate_left
             ·
              intro w'
              go_simp
              with_reducible rfl
             rotate_left
             ·
              simp only [Act.put, sA, sZ, sU, i64_w, i32_w]
              rfl
             refine take_ (i := 3) (N := some 103) (v := ?_) (a' := ?_) (bm 26 2478847) rfl rfl (by kernel_rfl) (fun _ _ _ h => h) (Or.inl ⟨by rfl, ?_⟩) hHeld ?_ ?_
             rotate_left
             ·
              rintro w' ⟨s0, s1, s2, s3⟩
              first | (go_simp; with_reducible rfl) | (simp only [add_plain] at s0 s1 s2 s3; go_simp; with_reducible rfl)
             rotate_left
             ·
              simp only [Act.put, sA, sZ, sU, i64_w, i32_w]
              rfl
             refine take_ (i := 8) (N := some 108) (v := ?_) (a' := ?_) (bm 26 2479103) rfl rfl (by kernel_rfl) (fun _ _ _ h => h) (Or.inl ⟨by rfl, ?_⟩) hHeld ?_ ?_
             rotate_left
             ·
              rintro w' ⟨s0, s1, s2, s3⟩
              first | (go_simp; with_reducible rfl) | (simp only [add_plain] at s0 s1 s2 s3; go_simp; with_reducible rfl)
             rotate_left
             ·
              simp only [Act.put, sA, sZ, sU, i64_w, i32_w]
              rfl
             refine pure_ (i := 10) (N := some 110) (v := ?_) (a' := ?_) (bm 26 2480127) rfl rfl (by kernel_rfl) (fun _ _ _ h => h) (Or.inl ⟨by rfl, ?_⟩) ?_ ?_
             rotate_left
             ·
              intro w'
              go_simp
              with_reducible rfl
             rotate_left
             ·
              simp only [Act.put, sA, sZ, sU, i64_w, i32_w]
              rfl
             refine take_ (i := 11) (N := some 111) (v := ?_) (a' := ?_) (bm 26 2482175) rfl rfl (by kernel_rfl) (fun _ _ _ h => h) (Or.inl ⟨by rfl, ?_⟩) hHeld ?_ ?_
             rotate_left
             ·
              rintro w' ⟨s0, s1, s2, s3⟩
              first | (go_simp; with_reducible rfl) | (simp only [add_plain] at s0 s1 s2 s3; go_simp; with_reducible rfl)
             rotate_left
             ·
              simp only [Act.put, sA, sZ, sU, i64_w, i32_w]
              rfl
             refine pure_ (i := 13) (N := some 113) (v := ?_) (a' := ?_) (bm 26 2490367) rfl rfl (by kernel_rfl) (fun _ _ _ h => h) (Or.inl ⟨by rfl, ?_⟩) ?_ ?_
             rotate_left
             ·
              intro w'
              go_simp
              with_reducible rfl
             rotate_left
             ·
              simp only [Act.put, sA, sZ, sU, i64_w, i32_w]
              rfl
             refine take_ (i := 17) (N := some 117) (v := ?_) (a' := ?_) (bm 26 2621439) rfl rfl (by kernel_rfl) (fun _ _ _ h => h) (Or.inl ⟨by rfl, ?_⟩) hHeld ?_ ?_
             rotate_left
             ·
              rintro w' ⟨s0, s1, s2, s3⟩
              first | (go_simp; with_reducible rfl) | (simp only [add_plain] at s0 s1 s2 s3; go_simp; with_reducible rfl)
             rotate_left
             ·
              simp only [Act.put, sA, sZ, sU, i64_w, i32_w]
              rfl
             refine pure_ (i := 19) (N := some 119) (v := ?_) (a' := ?_) (bm 26 3145727) rfl rfl (by kernel_rfl) (fun _ _ _ h => h) (Or.inl ⟨by rfl, ?_⟩) ?_ ?_
             rotate_left
             ·
              intro w'
              go_simp
              with_reducible rfl
             rotate_left
             ·
              simp only [Act.put, sA, sZ, sU, i64_w, i32_w]
              rfl
             refine take_ (i := 20) (N := some 120) (v := ?_) (a' := ?_) (bm 26 4194303) rfl rfl (by kernel_rfl) (fun _ _ _ h => h) (Or.inl ⟨by rfl, ?_⟩) hHeld ?_ ?_
             rotate_left
             ·
              rintro w' ⟨s0, s1, s2, s3⟩
              first | (go_simp; with_reducible rfl) | (simp only [add_plain] at s0 s1 s2 s3; go_simp; with_reducible rfl)
             rotate_left
             ·
              simp only [Act.put, sA, sZ, sU, i64_w, i32_w]
              rfl
             refine pure_ (i := 22) (N := some 122) (v := ?_) (a' := ?_) (bm 26 8388607) rfl rfl (by kernel_rfl) (fun _ _ _ h => h) (Or.inl ⟨by rfl, ?_⟩) ?_ ?_
             rotate_left
             ·
              intro w'
              go_simp
              with_reducible rfl
             rotate_left
             ·
              simp only [Act.put, sA, sZ, sU, i64_w, i32_w]
              rfl
             refine pure_ (i := 23) (N := some 123) (v := ?_) (a' := ?_) (bm 26 16777215) rfl rfl (by kernel_rfl) (fun _ _ _ h => h) (Or.inl ⟨by rfl, ?_⟩) ?_ ?_
             rotate_left
             ·
              intro w'
              go_simp
              with_reducible rfl
             rotate_left
             ·
              simp only [Act.put, sA, sZ, sU, i64_w, i32_w]
              rfl
             refine pure_ (i := 24) (N := some 124) (v := ?_) (a' := ?_) (bm 26 33554431) rfl rfl (by kernel_rfl) (fun _ _ _ h => h) (Or.inl ⟨by rfl, ?_⟩) ?_ ?_
             rotate_left
             ·
              intro w'
              go_simp
              with_reducible rfl
             rotate_left
             ·
              simp only [Act.put, sA, sZ, sU, i64_w, i32_w]
              rfl
             refine last_ (i := 25) (N := none) (bm 26 67108863) rfl rfl (by kernel_rfl) (by decide) (fun K hK => ?_)
             refine skip_ (w1 := ?_) (by rfl) rfl ?_ ?_
             rotate_left
             ·
              go_simp
              rfl
             refine hK.out _ _ ?_
             clear hK K
             refine done_ (by kernel_rfl) ?_
             clear hHeld
             go_wp2
             go_roundw
             case rel => exact ⟨j + 1, by go_num, ⟨cj⟩, ⟨by
              have h4 := HS4.out
              have := EQ2.out.2.2.2
              rw [getD_set_eq _ _ _ _ (by have := h4.len; simp only [List.length_set] at this; omega), set_take_drop X Y j _ (by omega) (by omega) HYJ.out, List.set_set] at h4
              first | exact h4 | exact h4.drew1⟩⟩
             case measure => simp [intOf]; omega
            ·
             have f0 : decide ((j : Int) < (n : Int)) = false := decide_eq_false (by omega)
             have f1 : decide (j < n) = false := decide_eq_false cj
             have hS := HSj.out
             have e2 := EQ2.out.2.2.2
             rw [List.take_of_length_le (by omega), List.drop_of_length_le (by omega), List.append_nil] at hS
             have hrow := hS.mx.row i (by rw [hS.len]; exact ci)
             have hhi := (hS.mx.head i (by rw [hS.len]; exact ci)).1
             rw [getD_set_eq _ _ _ _ (by have := hS.len; rw [List.length_set] at this; omega), ← EQ.out.1, ← EQ.out.2] at hrow
             rw [← EQ.out.1, ← EQ.out.2] at hhi
             have HROW := aM hrow
             have HS5 := aM hS
             clear hrow hS e2 HSj cj
             go_wp2_with (first | (go_at_call 99; (with_reducible refine (divided_n k _ n _ Y t _ EQ2.out.2.2.2.2.1 ?hr_ ?hc_ HST.out).mono ?_); (case hr_ => exact (Kd.R_reads' HROW.out).2.2); (case hc_ => exact (by have h_ := (Kd.R_reads' HROW.out).2.1; have := EQ2.out.2.2.2; omega)); rintro e w16 ⟨vt, rfl, hy, hb⟩; obtain ⟨bt, ct, evt, _⟩ := Kd.R_form hy (by have := EQ2.out.2.2.2; have := HN.out; omega); subst evt; rw [EQ2.out.2.2.2.2.2] at hy ⊢; have HY := aM hy; have HBT := aM hb; obtain ⟨hh6, hf6⟩ := (HS5.out.below hb).mx.head i (by rw [HS5.out.len]; exact ci); clear hy hb hhi))
             go_roundw
             case rel => exact ⟨i + 1, S.set i t, h1.set i (bt, ct), by go_num, ⟨ci⟩, HRW2, ⟨by have h6 := HS5.out.fresh i ci HBT.out HY.out rfl; rw [List.set_set] at h6; exact h6⟩⟩
             case measure => simp [intOf]; omega
          ·
           rw [if_neg ctl] at hRW; cases hRW
       ·
        have d0 : decide ((i : Int) < (m : Int)) = false := decide_eq_false (by omega)
        have d1 : decide (i < m) = false := decide_eq_false ci
        have hRW := HRW.out
        rw [show m - i = 0 by omega] at hRW
        cases hRW
        clear HRW ci
        go_wp2_with (first | ((with_reducible refine gate_builtin (b := .append) (xs := #[.tmp 133, .tmp 135]) rfl ?_); at_builtin; refine Kd.R_append (Kd.int .i64) (w0 := w) w.heap.size rfl (.tmp 133) (.tmp 135) 22 3 (.int .i64 0) 8 rfl Try.underlying22 info3 rfl (by decide) (by omega) (.slice Ap p.length cp) p (c : Int) [.int .i64 (c : Int)] (fun _ => True) (fun _ => False) rfl rfl ?aP (fun _ hk => hk.elim) ?aF ?aO ?aB ?aS ?aL ?_; (case aP => exact rfl); (case aB => exact HS.out.bel); (case aF => exact (fun _ _ => trivial)); (case aO => exact (zR HS.out.piv)); (case aS => exact HS.out.bel.size); (case aL => have := HP.out; have := HN.out; omega); intro v139 w17 ho hb hg hat; have HS7 := aM (HS.out.app hb hg hat ho); clear ho hb hg hat))
        go_roundw
        case rel => exact ⟨c + 1, R2, p ++ [(c : Int)], h1, by go_num, ⟨cc⟩, ⟨by have := HP.out; simp; omega⟩, HF, HS7⟩
        case measure => simp [intOf]; omega
   ·
    have c0 : decide ((c : Int) < (n : Int)) = false := decide_eq_false (by omega)
    have c1 : decide (c < n) = false := decide_eq_false cc
    have hF := HF.out
    rw [show n - c = 0 by omega] at hF
    cases hF
    have hS := HS.out
    clear HF HS cc
    go_wp2
    first | (go_ret2; exact ⟨_, _, rfl, hS.len ▸ hS.mx.to_S, hS.piv, hS.bel⟩) | trace_state
 ·
  rw [if_neg hc] at h; cases h
end Go.Proofs.Ytgidnmpppbkamaa.PFnExactPlaneClass
