-- Laid for this claim by a program of the session's own (wip/tool/myprint.py).
import Derived.Test.YtmfmgnpefjmieaaMFnThresholdTablesx5
namespace Go.Proofs.Ytmfmgnpefjmieaa.PFnThresholdTables
open Go.RowKit Go.Proofs.YtmfmgnpefjmieaaW.PrintWords Go.Proofs.YtmfmgnpefjmieaaW.PrintLast Go.Proofs.YtmfmgnpefjmieaaW.PrintMore
attribute [local go_sem] max2_int min2_int max_two min_two max_three min_three max_four min_four
set_option linter.unusedVariables false
set_option maxHeartbeats 8000000
set_option maxRecDepth 100000
set_option linter.unusedSimpArgs false
def impl_product.l0 : Nat → List Int → Int → List Int → Int → Int → Option (Int)
  | 0, _, _, _, _, _ => none
  | k + 1, x1, x5, x8, x9, x10 => if x10 < x9 then (if 0 ≤ x10 then (if x10 < (x8.length : Int) then (if x10 < (x1.length : Int) then (impl_product.l0 k x1 (wrap64 (x5 + (wrap64 ((rd x8 x10) * (rd x1 x10))))) x8 x9 (wrap64 (x10 + 1))) else (none)) else (none)) else (none)) else (some x5)
def impl_product.f (k : Nat) (l0 : List Int) (l1 : List Int) : Option (Int) := impl_product.l0 k l1 0 l0 (l0.length : Int) 0
theorem impl_product.calls (k : Nat) (A0 : Option Addr) (c0 : Nat) (l0 : List Int) (A1 : Option Addr) (c1 : Nat) (l1 : List Int) (r : Int) (w : World) (hr0 : Kd.C (Kd.int .i64) w A0 l0.length l0) (hc0 : l0.length ≤ c0) (hr1 : Kd.C (Kd.int .i64) w A1 l1.length l1) (hc1 : l1.length ≤ c1) (h : impl_product.f k l0 l1 = some r) :
    Calls Try.prog 151 #[.slice A0 l0.length c0, .slice A1 l1.length c1] w fun e w' => e = .returned (.int .i64 r) ∧ Drawn0 w w' := by
 have HR0 := aM hr0
 have HC0 := aM hc0
 clear hr0 hc0
 have HR1 := aM hr1
 have HC1 := aM hc1
 clear hr1 hc1
 have H : (impl_product.l0 k l1 0 l0 (l0.length : Int) 0) = some r := h
 clear h
 have H' := aM H
 clear H
 go_enter Try.func151, Try.ntmps151
 go_wp2
 go_loopg [5, 10] k (fun kq v5 v10 w' => ∃ (x5_1 : Int) (x10_1 : Int), v5 = .int .i64 x5_1 ∧ v10 = .int .i64 x10_1 ∧ Aside0 (impl_product.l0 kq l1 x5_1 l0 (l0.length : Int) x10_1 = some r) ∧ Aside0 (kq ≤ k) ∧ Drawn0 w w')
 case atStart => exact ⟨(0), (0), yZ, yZ, H', ⟨Nat.le_refl _⟩, yDn⟩
 case round =>
  clear H'
  try clear c1
  obtain ⟨x5_1, x10_1, rfl, rfl, HA, HK1, ⟨m1, rfl⟩⟩ := hrel
  cases gk with
  | zero => exact absurd HA.out (by simp [impl_product.l0])
  | succ k1 =>
   have H := HA.out
   clear HA
   simp only [impl_product.l0] at H
   obtain ⟨-, c3b0, H⟩ | ⟨-, c3b0, H⟩ := yif H
   rotate_left
   ·
    obtain rfl := Option.some.inj H
    go_wp2
    go_ret
    exact ⟨yZ, yDn⟩
   obtain ⟨-, c4b0, H⟩ | ⟨c4, -, H⟩ := yif H
   rotate_left
   · exact absurd H (by simp)
   obtain ⟨-, c5b0, H⟩ | ⟨c5, -, H⟩ := yif H
   rotate_left
   · exact absurd H (by simp)
   obtain ⟨-, c6b0, H⟩ | ⟨c6, -, H⟩ := yif H
   rotate_left
   · exact absurd H (by simp)
   have H' := aM H
   clear H
   obtain ⟨ad270, e270, hx270_0, p270, q270⟩ := yi HR0.out x10_1
   cases e270
   obtain ⟨ad271, e271, hx271_0, p271, q271⟩ := yi HR1.out x10_1
   cases e271
   go_wp2
   go_roundg k1
   case measure => have := HK1.out; omega
   case rel => exact ⟨(wrap64 (x5_1 + (wrap64 ((rd l0 x10_1) * (rd l1 x10_1))))), (wrap64 (x10_1 + 1)), yZ, yZ, H', ⟨by have := HK1.out; omega⟩, yDn⟩
def impl_productsOf.l0 : Nat → Int → List Int → List Int → Int → Int → Option (List Int)
  | 0, _, _, _, _, _ => none
  | k + 1, x0, x1, x5, x9, x10 => if x10 < x9 then ((impl_bitPoint.f k x0 x10).bind fun t275 => ((impl_product.f k x1 t275).bind fun t278 => (if x5.length < 17592186044416 then (impl_productsOf.l0 k x0 x1 (x5 ++ [t278]) x9 (wrap64 (x10 + 1))) else (none)))) else (some x5)
def impl_productsOf.f (k : Nat) (a0 : Int) (l1 : List Int) : Option (List Int) := if 0 ≤ a0 then (impl_productsOf.l0 k a0 l1 (([] : List Int)) (shl .i64 1 a0) 0) else (none)
theorem impl_productsOf.calls (k : Nat) (a0 : Int) (A1 : Option Addr) (c1 : Nat) (l1 : List Int) (r : List Int) (w : World) (hr1 : Kd.C (Kd.int .i64) w A1 l1.length l1) (hc1 : l1.length ≤ c1) (h : impl_productsOf.f k a0 l1 = some r) :
    Calls Try.prog 131 #[.int .i64 a0, .slice A1 l1.length c1] w fun e w' => ∃ v0_ : Value, e = .returned (v0_) ∧ Kd.R (Kd.int .i64) 3 w' w.heap.size (fun _ => True) v0_ r ∧ Below w.heap.size w w' := by
 have HR1 := aM hr1
 have HC1 := aM hc1
 clear hr1 hc1
 have HB := aM (Below.refl w.heap.size w)
 have H : (if 0 ≤ a0 then (impl_productsOf.l0 k a0 l1 (([] : List Int)) (shl .i64 1 a0) 0) else (none)) = some r := h
 clear h
 obtain ⟨y272, hy272⟩ := yE (([] : List Int) : List Int)
 replace H : (if 0 ≤ a0 then (impl_productsOf.l0 k a0 l1 y272 (shl .i64 1 a0) 0) else (none)) = some r := yI hy272 H
 have Ny272 := aM hy272
 clear hy272
 obtain ⟨c3, -, H⟩ | ⟨c3, -, H⟩ := yif H
 rotate_left
 · exact absurd H (by simp)
 have c3b0 := eq_true c3
 have c3b1 : decide (0 ≤ a0) = true := decide_eq_true c3
 clear c3
 obtain ⟨ji4, hji4⟩ := yJ ((shl .i64 1 a0))
 (first | rw [hji4] at H | simp only [hji4] at H)
 have hji4_ : (IntKind.i64.wrap (1 * 2 ^ min a0.toNat 64)) = ji4 := hji4
 have hji4z : a0 ≤ 64 → (IntKind.i64.wrap (1 * 2 ^ a0.toNat)) = ji4 := shl_small hji4
 have hji4u : (IntKind.i64.wrap (2 ^ min a0.toNat 64)) = ji4 := by have h_ := hji4_; rw [Int.one_mul] at h_; exact h_
 have hji4v : a0 ≤ 64 → (IntKind.i64.wrap (2 ^ a0.toNat)) = ji4 := fun hle_ => by have h_ := hji4z hle_; rw [Int.one_mul] at h_; exact h_
 have hji4y : (wrap64 (1 * 2 ^ min a0.toNat 64)) = ji4 := (i64_w _).symm.trans hji4_
 have hji4x : a0 ≤ 64 → (wrap64 (1 * 2 ^ a0.toNat)) = ji4 := fun h_ => (i64_w _).symm.trans (hji4z h_)
 have H' := aM H
 clear H
 go_enter Try.func131, Try.ntmps131
 go_wp2_with (first | ((with_reducible refine gate_dst (N := 7) rfl ?_); refine Kd.R_lit (Kd.int .i64) _ 3 ?hg (N := 7) ?hd (xs := ([] : List Int)) (inner := []) (ok := fun _ => True) (okp := fun _ => True) ?hr ?hp (fun _ hk => hk) trivial (Below.refl _ _) (Nat.le_refl _) (by simp) ?_; (case hd => rfl); (case hg => rfl); (case hr => first | (go_simp; done) | (go_simp; rfl)); (case hp => exact (Reps.none _ _)); intro v273 w5 ho6 hb hg_ hnew_; clear hg_ hnew_; (first | rw [← Ny272.out] at ho6 | (simp only [Int.reduceToNat] at ho6; rw [← Ny272.out] at ho6)); have HO274 := aM (Kd.R_lower ho6 (below_size (xH HB.out))); replace HB := yS0 HB hb; clear hb ho6))
 go_loopg [5, 10] k (fun kq v5 v10 w' => ∃ (x5_1 : List Int) (x10_1 : Int), v10 = .int .i64 x10_1 ∧ Aside0 (impl_productsOf.l0 kq a0 l1 x5_1 ji4 x10_1 = some r) ∧ Aside0 (kq ≤ k) ∧ Aside0 (Kd.R (Kd.int .i64) 3 w' w.heap.size (fun _ => True) v5 x5_1) ∧ Aside0 (Below w.heap.size w w'))
 case atStart => exact ⟨(y272), (0), yZ, H', ⟨Nat.le_refl _⟩, ⟨xR HO274.out⟩, ⟨xH HB.out⟩⟩
 case round =>
  clear H'
  try clear c1
  try clear c3
  try clear c3b0
  try clear c3b1
  obtain ⟨x5_1, x10_1, rfl, HA, HK1, HO_5, HB⟩ := hrel
  cases gk with
  | zero => exact absurd HA.out (by simp [impl_productsOf.l0])
  | succ k1 =>
   have H := HA.out
   clear HA
   simp only [impl_productsOf.l0] at H
   obtain ⟨-, c7b0, H⟩ | ⟨-, c7b0, H⟩ := yif H
   rotate_left
   ·
    obtain rfl := Option.some.inj H
    go_wp2
    go_ret
    exact ⟨_, by first | rfl | (simp [errW_none, errW_some] <;> rfl) | (simp only [← hji4]; first | rfl | (simp [errW_none, errW_some] <;> rfl)) | (simp [*, errW_none, errW_some] <;> rfl), xR HO_5.out, xH HB.out⟩
   replace H := oB.mp H
   obtain ⟨t275, A80, H⟩ := H
   have A8 := aM A80
   clear A80
   replace H := oB.mp H
   obtain ⟨t278, A90, H⟩ := H
   have A9 := aM A90
   clear A90
   obtain ⟨c10, -, H⟩ | ⟨c10, -, H⟩ := yif H
   rotate_left
   · exact absurd H (by simp)
   have LMc10 := aM c10
   clear c10
   obtain ⟨y279, hy279⟩ := yE (x5_1 ++ [t278] : List Int)
   replace H : (impl_productsOf.l0 k1 a0 l1 y279 ji4 (wrap64 (x10_1 + 1))) = some r := yI hy279 H
   have Ny279 := aM hy279
   clear hy279
   have H' := aM H
   clear H
   go_wp2_with (first | (refine yL 17 Try.func90 #[.int .i64 a0, .int .i64 x10_1] ?_; (with_reducible refine (impl_bitPoint.calls k1 a0 x10_1 t275 _ A8.out).mono ?_); rintro e w11 ⟨v276, rfl, ho0, hb⟩; refine ⟨_, rfl, ?_⟩; have HO277 := aM (Kd.R_lower (Kd.R_new' ho0 (Kd.R_lt (xR HO_5.out))) (below_size (xH HB.out))); replace HO_5 := aM (Kd.R_elder' (xR HO_5.out) (Kd.R_base ho0) hb); replace HB := yS0 HB hb; (try clear hb; try clear ho0); obtain ⟨Ao12, co12, eo12⟩ := Kd.R_slice HO277.out; subst eo12) | (refine yL 18 Try.func151 #[.slice A1 l1.length c1, .slice Ao12 t275.length co12] ?_; (with_reducible refine (impl_product.calls k1 _ _ l1 _ _ t275 t278 _ (xC (Kd.C_below HR1.out HB.out)) HC1.out (xC (Kd.R_reads' HO277.out).2.2) ((Kd.R_reads' HO277.out).2.1) A9.out).mono ?_); rintro e w' ⟨rfl, ⟨nd, rfl⟩⟩; refine ⟨_, rfl, ?_⟩) | ((with_reducible refine gate_builtin (b := .append) (xs := #[.tmp 13, .tmp 19]) rfl ?_); at_builtin; refine Kd.R_append (Kd.int .i64) (w0 := w) w.heap.size rfl (.tmp 13) (.tmp 19) 24 3 (.int .i64 0) 8 rfl Try.underlying24 info3 rfl (by decide) (by omega) u5 x5_1 t278 [.int .i64 t278] (fun k_ => some k_ ≠ (.slice Ao12 t275.length co12 : Value).ownBlock) (fun _ => False) rfl rfl ?aP (fun _ hk => hk.elim) ?aF ?aO ?aB ?aS ?aL ?_; (case aP => exact rfl); (case aB => exact (xH HB.out)); (case aF => exact (fun k_ hk => Kd.fresh' (Kd.R_lt (xR HO277.out)) k_ hk)); (case aO => exact (zR (rM HO_5.out (fun _ hk => hk.2)))); (case aS => exact (below_size (xH HB.out))); (case aL => have := LMc10.out; omega); intro v280 w13 ho hb hg hat; rw [← Ny279.out] at ho; replace HO277 := aM (Kd.R_after (ok := (fun _ => True)) (xR HO277.out) hg hat); replace HB := aM (hb); have HO281 := aM (ho); clear HO_5; clear ho hb hg hat))
   go_roundg k1
   case measure => have := HK1.out; omega
   case rel => exact ⟨(y279), (wrap64 (x10_1 + 1)), yZ, H', ⟨by have := HK1.out; omega⟩, ⟨zR (rM HO281.out (fun _ hk => trivial))⟩, ⟨xH HB.out⟩⟩
def impl_leastPlane.ab (x : Int) : Int := if x < -x then -x else x
def impl_leastPlane.sz : List Int → Int
  | [] => 0
  | x :: l => impl_leastPlane.ab x + impl_leastPlane.sz l
theorem impl_leastPlane.sz_bd (b : Int) : ∀ l : List Int, (∀ x ∈ l, -b ≤ x ∧ x ≤ b) → 0 ≤ impl_leastPlane.sz l ∧ impl_leastPlane.sz l ≤ b * l.length := by
  intro l
  induction l with
  | nil => intro _; simp [impl_leastPlane.sz]
  | cons x l ih =>
    intro h
    have h1 := ih fun y hy => h y (List.mem_cons_of_mem _ hy)
    have h2 := h x List.mem_cons_self
    rw [List.length_cons, show ((l.length + 1 : Nat) : Int) = (l.length : Int) + 1 by omega, Int.mul_add]
    simp only [impl_leastPlane.sz, impl_leastPlane.ab]
    split <;> omega
theorem impl_leastPlane.sz_snoc (x : Int) : ∀ l : List Int, impl_leastPlane.sz (l ++ [x]) = impl_leastPlane.sz l + impl_leastPlane.ab x := by
  intro l
  induction l with
  | nil => simp [impl_leastPlane.sz]
  | cons y l ih => simp only [List.cons_append, impl_leastPlane.sz, ih]; omega
theorem impl_leastPlane.sz_take (l : List Int) (j : Nat) (h : j < l.length) : impl_leastPlane.sz (l.take (j + 1)) = impl_leastPlane.sz (l.take j) + impl_leastPlane.ab (l.getD j 0) := by
  rw [List.take_succ_eq_append_getElem h, impl_leastPlane.sz_snoc, List.getD_eq_getElem?_getD, List.getElem?_eq_getElem h]; rfl
def impl_leastPlane.step (k : Nat) (t : List Int) (n : Int) (s : List Int × Int × Int) (v : List Int) : Option (List Int × Int × Int) :=
  if impl_leastPlane.sz v ≥ s.2.2 then some s else
    (impl_productsOf.f k n v).bind fun p => (impl_gap.f k t p).bind fun q =>
      if q.1 ≤ q.2 then some s else (impl_copied.f v).bind fun c => some (c, if q.1 = 1000000000 then wrap64 (q.2 + 1) else q.1, impl_leastPlane.sz v)
theorem impl_leastPlane.one (k : Nat) (t v best : List Int) (A1 : Option Addr) (c1 : Nat) (bound size : Int) (s' : List Int × Int × Int) (vw : Value) (g gs gt gn gb : Nat) (w0 w : World)
    (hn : v.length ≤ 8) (hv : ∀ x ∈ v, -9 ≤ x ∧ x ≤ 9) (hg : w.heap[g]? = some (row3 v)) (hs : w.heap[gs]? = some (.cells #[.int .i64 size] 3 (0, 0))) (ht : w.heap[gt]? = some (.cells #[.slice A1 t.length c1] 24 (0, 0)))
    (hnb : w.heap[gn]? = some (.cells #[.int .i64 (v.length : Int)] 3 (0, 0))) (hbb : w.heap[gb]? = some (.cells #[vw, .int .i64 bound] 28 (0, 0)))
    (hR : Kd.R (Kd.int .i64) 3 w w0.heap.size (fun k => k ≠ g ∧ k ≠ gs ∧ k ≠ gn) vw best) (hC : Kd.C (Kd.int .i64) w0 A1 t.length t) (hc1 : t.length ≤ c1) (hB : Below w0.heap.size w0 w)
    (hgs : w0.heap.size ≤ gs) (hgb : w0.heap.size ≤ gb) (e1 : gs ≠ gn) (e2 : gs ≠ g) (e3 : gn ≠ g) (h : impl_leastPlane.step k t (v.length : Int) (best, bound, size) v = some s') :
    Calls Try.prog 129 #[.slice (some ⟨g, 0, none⟩) v.length v.length, .pointer (some ⟨gs, 0, none⟩), .pointer (some ⟨gt, 0, none⟩), .pointer (some ⟨gn, 0, none⟩), .pointer (some ⟨gb, 0, none⟩)] w fun e w' => e = .returned (.tuple #[]) ∧
      w'.heap[g]? = some (row3 v) ∧ w'.heap[gs]? = some (.cells #[.int .i64 s'.2.2] 3 (0, 0)) ∧ w'.heap[gt]? = some (.cells #[.slice A1 t.length c1] 24 (0, 0)) ∧ w'.heap[gn]? = some (.cells #[.int .i64 (v.length : Int)] 3 (0, 0)) ∧
        ∃ vw' : Value, w'.heap[gb]? = some (.cells #[vw', .int .i64 s'.2.1] 28 (0, 0)) ∧ Kd.R (Kd.int .i64) 3 w' w0.heap.size (fun k => k ≠ g ∧ k ≠ gs ∧ k ≠ gn) vw' s'.1 ∧ Below w0.heap.size w0 w' ∧ w.heap.size ≤ w'.heap.size ∧ ∀ i, i < w.heap.size → i ≠ gs → i ≠ gb → w'.heap[i]? = w.heap[i]? := by
  have HG := aM hg
  have HS := aM hs
  have HT := aM ht
  have HN := aM hnb
  have HBB := aM hbb
  have HR := aM hR
  have HC := aM hC
  have HC1 := aM hc1
  have HB := aM hB
  have HBW := aM (Below.refl w.heap.size w)
  have H := aM h
  have HE := aM (And.intro hgs (And.intro hgb (And.intro e1 (And.intro e2 e3))))
  have HV := aM hv
  have hcs : w.cell? ⟨gs, 0, none⟩ = some (.int .i64 size) := (bC hs 0).trans rfl
  have hct : w.cell? ⟨gt, 0, none⟩ = some (.slice A1 t.length c1) := (bC ht 0).trans rfl
  have hcn : w.cell? ⟨gn, 0, none⟩ = some (.int .i64 (v.length : Int)) := (bC hnb 0).trans rfl
  clear hg hs ht hnb hbb hR hC hc1 hB h hgs hgb e1 e2 e3 hv
  go_enter Try.func129, Try.ntmps129
  go_wp2
  go_loopw [6, 8, 13] (fun v6 v8 v13 w' => ∃ j : Nat, w' = w ∧ v13 = .int .i64 (j : Int) ∧ v6 = .int .i64 (impl_leastPlane.sz (v.take j)) ∧ Aside0 (j ≤ v.length)) (fun _ _ v13 _ => v.length - (intOf v13).toNat)
  case atStart => exact ⟨0, rfl, rfl, rfl, ⟨Nat.zero_le _⟩⟩
  case round =>
    obtain ⟨j, rfl, rfl, rfl, HJ⟩ := hrel
    have hsz := impl_leastPlane.sz_bd 9 (v.take j) (fun x hx => HV.out x (List.mem_of_mem_take hx))
    rw [List.length_take] at hsz
    by_cases c : j < v.length
    · have c0 : decide ((j : Int) < (v.length : Int)) = true := decide_eq_true (by omega)
      have c1 : decide (j < v.length) = true := decide_eq_true c
      have hcl := row3_cell HG.out j c
      have hvj := HV.out (v.getD j 0) (by rw [List.getD_eq_getElem?_getD, List.getElem?_eq_getElem c]; exact List.getElem_mem c)
      have HST := aM (impl_leastPlane.sz_take v j c)
      obtain ⟨x, hx⟩ : ∃ x, v.getD j 0 = x := ⟨_, rfl⟩
      rw [hx] at hcl hvj HST
      have h0j : (0 : Int) ≤ (j : Int) := by omega
      go_wp2
      refine ⟨?rel, ?measure⟩
      case rel => exact ⟨j + 1, trivial, by go_num, by rw [HST.out]; rfl, ⟨c⟩⟩
      case measure => simp [intOf]; omega
    · have c0 : decide ((j : Int) < (v.length : Int)) = false := decide_eq_false (by omega)
      have c1' : decide (j < v.length) = false := decide_eq_false c
      have e : j = v.length := by have := HJ.out; omega
      rw [e, List.take_length] at hsz
      have eT : v.take j = v := by rw [e, List.take_length]
      obtain ⟨z, hz⟩ : ∃ z, impl_leastPlane.sz v = z := ⟨_, rfl⟩
      rw [hz] at hsz
      have h := H.out
      unfold impl_leastPlane.step at h
      rw [hz] at h
      simp only at h
      rw [eT, hz]
      clear c H eT
      by_cases c2 : z ≥ size
      · rw [if_pos c2] at h
        cases h
        have c20 : decide (size ≤ z) = true := decide_eq_true c2
        have c21 : decide (z ≥ size) = true := decide_eq_true c2
        clear c2
        go_wp2
        first | go_end0 | ((try simp only [Exit.inBlock, Exit.then]); refine bodyPost_ret (results_none rfl _ _ _) rfl ?_)
        exact ⟨rfl, HG.out, HS.out, HT.out, HN.out, _, HBB.out, HR.out, HB.out, below_size HBW.out, fun i hi _ _ => HBW.out.block i hi⟩
      · rw [if_neg c2] at h
        have c20 : decide (size ≤ z) = false := decide_eq_false c2
        have c21 : decide (z ≥ size) = false := decide_eq_false c2
        clear c2
        obtain ⟨p, hp, h⟩ := oB.mp h
        obtain ⟨⟨o1, o2⟩, hq, h⟩ := oB.mp h
        have HP := aM hp
        have HQ := aM hq
        have H := aM h
        clear hp hq h
        go_wp2
        replace HG := aM (bD HG.out)
        replace HS := aM (bD HS.out)
        replace HT := aM (bD HT.out)
        replace HN := aM (bD HN.out)
        replace HBB := aM (bD HBB.out)
        replace HR := aM (rD HR.out)
        replace HB := aM (eD HB.out)
        replace HBW := aM (eD HBW.out)
        clear hcs hct hcn
        refine start_ (n := 10) (S := fun w' => w'.cell? ⟨gt, 0, none⟩ = some (.slice A1 t.length c1) ∧ w'.cell? ⟨gn, 0, none⟩ = some (.int .i64 (v.length : Int))) (ds := []) (bm 10 0) (by kernel_rfl) rfl rfl ⟨(bC HT.out 0).trans rfl, (bC HN.out 0).trans rfl⟩ (fun hHeld => ?_)
        generalize wr.drew = w18 at HG HS HT HN HBB HR HB HBW hHeld ⊢
        refine yp 2 30 (bm 10 4) ?_
        refine yt2 0 28 (bm 10 5) hHeld ?_
        refine yt2 1 29 (bm 10 7) hHeld ?_
        refine yo 3 31 (bm 10 15) (fun K hK => ?_)
        refine goes_ Try.func131 (by kernel_rfl) rfl #[.int .i64 (v.length : Int), .slice (some ⟨g, 0, none⟩) v.length v.length] (by rfl) rfl rfl (by simp only [List.map_toArray, List.map_cons, List.map_nil]; rfl) ?_
        with_reducible refine (impl_productsOf.calls k _ _ _ v p _ ?side1 ?side2 HP.out).mono ?_
        (case side1 => exact row3_C HG.out (by omega))
        (case side2 => exact Nat.le_refl _)
        rintro e w3 ⟨vp, rfl, hpr, hb⟩
        refine ⟨_, rfl, ?_⟩
        obtain ⟨Ap, cp, rfl, hlp, hcp⟩ := Kd.R_reads hpr
        have n0_ := aM (hb.block gs (blk_lt HS.out) |>.trans HS.out)
        have n1_ := aM (hb.block gt (blk_lt HT.out) |>.trans HT.out)
        have n2_ := aM (hb.block gn (blk_lt HN.out) |>.trans HN.out)
        have n3_ := aM (hb.block gb (blk_lt HBB.out) |>.trans HBB.out)
        have n4_ := aM (hb.block g (blk_lt HG.out) |>.trans HG.out)
        have n5_ := aM (Kd.R_below HR.out hb)
        have n6_ := aM (below_step HB.out hb)
        replace HBW := aM (below_step HBW.out hb)
        have HCP := aM hcp
        have HLP := aM hlp
        clear HS HT HN HBB HG HR HB hpr hb hcp hlp
        have HS := n0_
        have HT := n1_
        have HN := n2_
        have HBB := n3_
        have HG := n4_
        have HR := n5_
        have HB := n6_
        clear n0_ n1_ n2_ n3_ n4_ n5_ n6_
        refine hK.out _ _ ⟨((bC HT.out 0).trans rfl), ((bC HN.out 0).trans rfl)⟩ (fun hHeld => ?_)
        clear hK K
        refine norm_ (a' := ?_) ?_ ?_
        rotate_left
        · show Act.put _ (some 31) _ = _
          simp only [Act.put, sA, sZ, sU, i64_w, i32_w]
          rfl
        refine yo 4 32 (bm 10 31) (fun K hK => ?_)
        refine goes_ Try.func130 (by kernel_rfl) rfl #[.slice A1 t.length c1, .slice Ap p.length cp] (by rfl) rfl rfl (by simp only [List.map_toArray, List.map_cons, List.map_nil]; rfl) ?_
        with_reducible refine (impl_gap.calls k _ _ t _ _ p o1 o2 _ ?side1 ?side2 ?side3 ?side4 HQ.out).mono ?_
        (case side1 => exact Kd.C_below HC.out HB.out)
        (case side2 => exact HC1.out)
        (case side3 => exact HCP.out)
        (case side4 => exact HLP.out)
        rintro e w4 ⟨rfl, hb⟩
        refine ⟨_, rfl, ?_⟩
        have n0_ := aM (hb.block gs (blk_lt HS.out) |>.trans HS.out)
        have n1_ := aM (hb.block gt (blk_lt HT.out) |>.trans HT.out)
        have n2_ := aM (hb.block gn (blk_lt HN.out) |>.trans HN.out)
        have n3_ := aM (hb.block gb (blk_lt HBB.out) |>.trans HBB.out)
        have n4_ := aM (hb.block g (blk_lt HG.out) |>.trans HG.out)
        have n5_ := aM (Kd.R_below HR.out hb)
        have n6_ := aM (below_step HB.out hb)
        replace HBW := aM (below_step HBW.out hb)
        clear HS HT HN HBB HG HR HB HCP HLP hb
        have HS := n0_
        have HT := n1_
        have HN := n2_
        have HBB := n3_
        have HG := n4_
        have HR := n5_
        have HB := n6_
        clear n0_ n1_ n2_ n3_ n4_ n5_ n6_
        refine hK.out _ _ ⟨((bC HT.out 0).trans rfl), ((bC HN.out 0).trans rfl)⟩ (fun hHeld => ?_)
        clear hK K
        refine norm_ (a' := ?_) ?_ ?_
        rotate_left
        · show Act.put _ (some 32) _ = _
          simp only [Act.put, sA, sZ, sU, i64_w, i32_w]
          rfl
        refine yp 5 27 (bm 10 63) ?_
        refine yp 6 33 (bm 10 127) ?_
        refine yp 7 34 (bm 10 255) ?_
        refine yp 8 9 (bm 10 511) ?_
        refine yp 9 10 (bm 10 1023) ?_
        refine done_ (by kernel_rfl) ?_
        have hHQ := H.out
        clear h H hHeld
        by_cases c3 : o1 ≤ o2
        · rw [if_pos c3] at hHQ
          cases hHQ
          have c30 : decide (o1 ≤ o2) = true := decide_eq_true c3
          clear c3
          go_wp2
          first | go_end0 | ((try simp only [Exit.inBlock, Exit.then]); refine bodyPost_ret (results_none rfl _ _ _) rfl ?_)
          exact ⟨rfl, HG.out, HS.out, HT.out, HN.out, _, HBB.out, HR.out, HB.out, below_size HBW.out, fun i hi _ _ => HBW.out.block i hi⟩
        · rw [if_neg c3] at hHQ
          have c30 : decide (o1 ≤ o2) = false := decide_eq_false c3
          clear c3
          obtain ⟨cp, hcp, hHQ⟩ := oB.mp hHQ
          have HCP := aM hcp
          clear hcp
          obtain ⟨o3, ho3⟩ : ∃ o3, (if o1 = 1000000000 then wrap64 (o2 + 1) else o1) = o3 := ⟨_, rfl⟩
          rw [ho3] at hHQ
          cases hHQ
          by_cases c4 : o1 = 1000000000
          · have c40 : (o1 == 1000000000) = true := beq_iff_eq.mpr c4
            rw [if_pos c4] at ho3
            clear c4
            go_wp2_with (first | (go_at_call 113; (with_reducible refine (impl_copied.calls _ _ v cp _ (row3_C HG.out (by omega)) (Nat.le_refl _) HCP.out).mono ?_); rintro e w5 ⟨vc, rfl, hcr, hb⟩; obtain ⟨Av, cv, rfl⟩ := Kd.R_slice hcr; have n0_ := aM (hb.block gs (blk_lt HS.out) |>.trans HS.out); have n1_ := aM (hb.block gt (blk_lt HT.out) |>.trans HT.out); have n2_ := aM (hb.block gn (blk_lt HN.out) |>.trans HN.out); have n3_ := aM (hb.block gb (blk_lt HBB.out) |>.trans HBB.out); have n4_ := aM (hb.block g (blk_lt HG.out) |>.trans HG.out); have n5_ := aM (Kd.R_new3 hcr HG.out HS.out HN.out); have n6_ := aM (below_step HB.out hb); have n7_ := aM (below_size HB.out); have n8_ := aM (below_step HBW.out hb); clear HBW; have HBW := n8_; clear n8_; clear HS HT HN HBB HG HR HB hcr hb; have HS := n0_; have HT := n1_; have HN := n2_; have HBB := n3_; have HG := n4_; have HR := n5_; have HB := n6_; have HSZ := n7_; clear n0_ n1_ n2_ n3_ n4_ n5_ n6_ n7_; have hs0 : w5.cell? ⟨gs, 0, none⟩ = some (.int .i64 size) := (bC HS.out 0).trans rfl; obtain ⟨bv, hbv⟩ : ∃ bv, bv = vw := ⟨_, rfl⟩; rw [← hbv] at HBB; have hb0 : w5.cell? ⟨gb, 0, none⟩ = some bv := (bC HBB.out 0).trans rfl; have hb1 : w5.cell? ⟨gb, 1, none⟩ = some (.int .i64 bound) := (bC HBB.out 1).trans rfl; have hfs := bF HS.out 0; have hfb0 := bF HBB.out 0; have hfb1 := bF HBB.out 1; have hne1 : ¬ gs = gb := blk_ne HS.out HBB.out (by decide); have hne2 : ¬ gb = gs := fun e => hne1 e.symm))
            first | go_end0 | ((try simp only [Exit.inBlock, Exit.then]); refine bodyPost_ret (results_none rfl _ _ _) rfl ?_)
            obtain ⟨d1, d2, d3, d4, d5⟩ := HE.out
            have f1 : g ≠ gb := blk_ne HG.out HBB.out (by decide)
            have f2 : gt ≠ gb := blk_ne HT.out HBB.out (by decide)
            have f3 : gn ≠ gb := blk_ne HN.out HBB.out (by decide)
            have f4 : gt ≠ gs := blk_ne HT.out HS.out (by decide)
            refine ⟨rfl, blk_far (blk_far (blk_far HG.out f1 _) f1 _) (Ne.symm d4) _, blk_put (blk_far (blk_far HS.out hne1 _) hne1 _) 0 _ rfl, blk_far (blk_far (blk_far HT.out f2 _) f2 _) f4 _, blk_far (blk_far (blk_far HN.out f3 _) f3 _) (Ne.symm d3) _, _, blk_far (blk_put (blk_put HBB.out 0 _ rfl) 1 _ rfl) hne2 _, ?_, eS (eS (eS HB.out d2) d2) d1, by simpa [World.setCell] using below_size HBW.out, fun i hi n1 n2 => (Below.heap_setCell _ ⟨gs, 0, none⟩ _ i n1).trans ((Below.heap_setCell _ ⟨gb, 1, none⟩ _ i n2).trans ((Below.heap_setCell _ ⟨gb, 0, none⟩ _ i n2).trans (HBW.out.block i hi)))⟩
            have r1 := Kd.R_types HR.out HBB.out (by decide)
            have r2 := Kd.R_far (p := ⟨gb, 0, none⟩) r1 (fun _ hk => hk.2) (Value.slice Av cp.length cv)
            have r3 := Kd.R_far (p := ⟨gb, 1, none⟩) r2 (fun _ hk => hk.2) (Value.int .i64 o3)
            exact Kd.R_lower (rM (Kd.R_far (p := ⟨gs, 0, none⟩) r3 (fun _ hk => hk.1.2.1) (Value.int .i64 z)) (fun _ hk => hk.1)) HSZ.out
          · have c40 : (o1 == 1000000000) = false := beq_eq_false_iff_ne.mpr c4
            rw [if_neg c4] at ho3
            subst ho3
            clear c4
            go_wp2_with (first | (go_at_call 113; (with_reducible refine (impl_copied.calls _ _ v cp _ (row3_C HG.out (by omega)) (Nat.le_refl _) HCP.out).mono ?_); rintro e w5 ⟨vc, rfl, hcr, hb⟩; obtain ⟨Av, cv, rfl⟩ := Kd.R_slice hcr; have n0_ := aM (hb.block gs (blk_lt HS.out) |>.trans HS.out); have n1_ := aM (hb.block gt (blk_lt HT.out) |>.trans HT.out); have n2_ := aM (hb.block gn (blk_lt HN.out) |>.trans HN.out); have n3_ := aM (hb.block gb (blk_lt HBB.out) |>.trans HBB.out); have n4_ := aM (hb.block g (blk_lt HG.out) |>.trans HG.out); have n5_ := aM (Kd.R_new3 hcr HG.out HS.out HN.out); have n6_ := aM (below_step HB.out hb); have n7_ := aM (below_size HB.out); have n8_ := aM (below_step HBW.out hb); clear HBW; have HBW := n8_; clear n8_; clear HS HT HN HBB HG HR HB hcr hb; have HS := n0_; have HT := n1_; have HN := n2_; have HBB := n3_; have HG := n4_; have HR := n5_; have HB := n6_; have HSZ := n7_; clear n0_ n1_ n2_ n3_ n4_ n5_ n6_ n7_; have hs0 : w5.cell? ⟨gs, 0, none⟩ = some (.int .i64 size) := (bC HS.out 0).trans rfl; obtain ⟨bv, hbv⟩ : ∃ bv, bv = vw := ⟨_, rfl⟩; rw [← hbv] at HBB; have hb0 : w5.cell? ⟨gb, 0, none⟩ = some bv := (bC HBB.out 0).trans rfl; have hb1 : w5.cell? ⟨gb, 1, none⟩ = some (.int .i64 bound) := (bC HBB.out 1).trans rfl; have hfs := bF HS.out 0; have hfb0 := bF HBB.out 0; have hfb1 := bF HBB.out 1; have hne1 : ¬ gs = gb := blk_ne HS.out HBB.out (by decide); have hne2 : ¬ gb = gs := fun e => hne1 e.symm))
            first | go_end0 | ((try simp only [Exit.inBlock, Exit.then]); refine bodyPost_ret (results_none rfl _ _ _) rfl ?_)
            obtain ⟨d1, d2, d3, d4, d5⟩ := HE.out
            have f1 : g ≠ gb := blk_ne HG.out HBB.out (by decide)
            have f2 : gt ≠ gb := blk_ne HT.out HBB.out (by decide)
            have f3 : gn ≠ gb := blk_ne HN.out HBB.out (by decide)
            have f4 : gt ≠ gs := blk_ne HT.out HS.out (by decide)
            refine ⟨rfl, blk_far (blk_far (blk_far HG.out f1 _) f1 _) (Ne.symm d4) _, blk_put (blk_far (blk_far HS.out hne1 _) hne1 _) 0 _ rfl, blk_far (blk_far (blk_far HT.out f2 _) f2 _) f4 _, blk_far (blk_far (blk_far HN.out f3 _) f3 _) (Ne.symm d3) _, _, blk_far (blk_put (blk_put HBB.out 0 _ rfl) 1 _ rfl) hne2 _, ?_, eS (eS (eS HB.out d2) d2) d1, by simpa [World.setCell] using below_size HBW.out, fun i hi n1 n2 => (Below.heap_setCell _ ⟨gs, 0, none⟩ _ i n1).trans ((Below.heap_setCell _ ⟨gb, 1, none⟩ _ i n2).trans ((Below.heap_setCell _ ⟨gb, 0, none⟩ _ i n2).trans (HBW.out.block i hi)))⟩
            have r1 := Kd.R_types HR.out HBB.out (by decide)
            have r2 := Kd.R_far (p := ⟨gb, 0, none⟩) r1 (fun _ hk => hk.2) (Value.slice Av cp.length cv)
            have r3 := Kd.R_far (p := ⟨gb, 1, none⟩) r2 (fun _ hk => hk.2) (Value.int .i64 o1)
            exact Kd.R_lower (rM (Kd.R_far (p := ⟨gs, 0, none⟩) r3 (fun _ hk => hk.1.2.1) (Value.int .i64 z)) (fun _ hk => hk.1)) HSZ.out
def impl_leastPlane.f (k : Nat) (a0 : Int) (l1 : List Int) : Option (List Int × Int × Int × Bool) :=
  if 0 ≤ a0 ∧ a0 ≤ 8 then ((wts 3 a0.toNat).foldlM (impl_leastPlane.step k l1 a0) ([], 0, 1000000000)).bind fun s => some (s.1, s.2.1, s.2.2, decide (s.2.2 < 1000000000)) else none
def impl_leastPlane.Inv (k : Nat) (l1 : List Int) (n : Nat) (A1 : Option Addr) (c1 : Nat) (w : World) (ds : List (List Int)) (W : World) : Prop := ∃ (s : List Int × Int × Int) (vw : Value), ds.foldlM (impl_leastPlane.step k l1 (n : Int)) ([], 0, 1000000000) = some s ∧
  W.heap[w.heap.size + 1 + 1 + 1 + 1]? = some (.cells #[.int .i64 s.2.2] 3 (0, 0)) ∧ W.heap[w.heap.size + 1]? = some (.cells #[.slice A1 l1.length c1] 24 (0, 0)) ∧ W.heap[w.heap.size]? = some (.cells #[.int .i64 (n : Int)] 3 (0, 0)) ∧
  W.heap[w.heap.size + 1 + 1 + 1]? = some (.cells #[vw, .int .i64 s.2.1] 28 (0, 0)) ∧ W.heap[w.heap.size + 1 + 1]? = some (.cells #[.slice none 0 0, .int .i64 0] 28 (0, 0)) ∧
  Kd.R (Kd.int .i64) 3 W w.heap.size (fun k => k ≠ w.heap.size + 1 + 1 + 1 + 1 + 1 ∧ k ≠ w.heap.size + 1 + 1 + 1 + 1 ∧ k ≠ w.heap.size) vw s.1 ∧ Below w.heap.size w W
def impl_leastPlane.W5 (n : Nat) (l1 : List Int) (A1 : Option Addr) (c1 : Nat) (w : World) : World :=
  (((((w.alloc (.cells #[.int .i64 (n : Int)] 3)).alloc (.cells #[.slice A1 l1.length c1] 24)).alloc (.cells #[.slice none 0 0, .int .i64 0] 28)).alloc (.cells #[.slice none 0 0, .int .i64 0] 28)).alloc (.cells #[.int .i64 1000000000] 3))
theorem impl_leastPlane.start (k : Nat) (l1 : List Int) (n : Nat) (A1 : Option Addr) (c1 : Nat) (w : World) (cs : Array Value) : impl_leastPlane.Inv k l1 n A1 c1 w [] ((impl_leastPlane.W5 n l1 A1 c1 w).alloc (.cells cs 3)) := by
  have b0 := Below.refl w.heap.size w
  refine ⟨_, .slice none 0 0, rfl, ?_, ?_, ?_, ?_, ?_, Kd.R_nil _ _ _ _ _, ?_⟩
  · exact bA (by simpa [impl_leastPlane.W5] using blk_new ((((w.alloc (.cells #[.int .i64 (n : Int)] 3)).alloc (.cells #[.slice A1 l1.length c1] 24)).alloc (.cells #[.slice none 0 0, .int .i64 0] 28)).alloc (.cells #[.slice none 0 0, .int .i64 0] 28)) (.cells #[.int .i64 1000000000] 3)) _
  · exact bA (bA (bA (bA (by simpa using blk_new (w.alloc _) _) _) _) _) _
  · exact bA (bA (bA (bA (bA (blk_new w _) _) _) _) _) _
  · exact bA (bA (by simpa using blk_new (((w.alloc _).alloc _).alloc _) _) _) _
  · exact bA (bA (bA (by simpa using blk_new ((w.alloc _).alloc _) _) _) _) _
  · exact eA (eA (eA (eA (eA (eA b0 _) _) _) _) _) _
theorem impl_leastPlane.sets (k : Nat) (l1 : List Int) (n : Nat) (A1 : Option Addr) (c1 : Nat) (w : World) (ds : List (List Int)) (W : World) (i : Nat) (v : Value) (h : impl_leastPlane.Inv k l1 n A1 c1 w ds W) :
    impl_leastPlane.Inv k l1 n A1 c1 w ds (W.setCell ⟨w.heap.size + 1 + 1 + 1 + 1 + 1, i, none⟩ v) := by
  obtain ⟨s, vw, i1, i2, i3, i4, i5, i6, i7, i8⟩ := h
  exact ⟨s, vw, i1, blk_far i2 (by simp) _, blk_far i3 (by simp) _, blk_far i4 (by simp; omega) _, blk_far i5 (by simp) _, blk_far i6 (by simp) _, Kd.R_far i7 (fun _ hk => hk.1) _, eS i8 (by omega)⟩
theorem impl_leastPlane.drews (k : Nat) (l1 : List Int) (n : Nat) (A1 : Option Addr) (c1 : Nat) (w : World) (ds : List (List Int)) (W : World) (h : impl_leastPlane.Inv k l1 n A1 c1 w ds W) : impl_leastPlane.Inv k l1 n A1 c1 w ds W.drew := by
  obtain ⟨s, vw, i1, i2, i3, i4, i5, i6, i7, i8⟩ := h
  exact ⟨s, vw, i1, bD i2, bD i3, bD i4, bD i5, bD i6, rD i7, eD i8⟩
theorem impl_leastPlane.steps (k : Nat) (l1 : List Int) (n : Nat) (A1 : Option Addr) (c1 : Nat) (w : World) (s : List Int × Int × Int) (hn : n ≤ 8) (hs : (wts 3 n).foldlM (impl_leastPlane.step k l1 (n : Int)) ([], 0, 1000000000) = some s)
    (hC : Kd.C (Kd.int .i64) w A1 l1.length l1) (hc : l1.length ≤ c1) (i : Nat) (v : List Int) (W : World) (hv : (wts 3 n)[i]? = some v) (h : impl_leastPlane.Inv k l1 n A1 c1 w ((wts 3 n).take i) W)
    (hr : W.heap[w.heap.size + 1 + 1 + 1 + 1 + 1]? = some (row3 v)) :
    Calls Try.prog 129 (#[.slice (some ⟨w.heap.size + 1 + 1 + 1 + 1 + 1, 0, none⟩) n n] ++ #[.pointer (some ⟨w.heap.size + 1 + 1 + 1 + 1, 0, none⟩), .pointer (some ⟨w.heap.size + 1, 0, none⟩), .pointer (some ⟨w.heap.size, 0, none⟩), .pointer (some ⟨w.heap.size + 1 + 1 + 1, 0, none⟩)]) W fun e W' =>
      e = .returned (.tuple #[]) ∧ impl_leastPlane.Inv k l1 n A1 c1 w ((wts 3 n).take (i + 1)) W' ∧ W'.heap[w.heap.size + 1 + 1 + 1 + 1 + 1]? = W.heap[w.heap.size + 1 + 1 + 1 + 1 + 1]? := by
  obtain ⟨s1, vw, i1, i2, i3, i4, i5, i6, i7, i8⟩ := h
  have hm := List.mem_of_getElem? hv
  have hvl := wts_len 3 n v hm
  subst hvl
  obtain ⟨s2, hs2⟩ := foldlM_pre _ _ (i + 1) _ _ hs
  have hs3 := hs2
  rw [foldlM_take _ _ i v _ hv, i1] at hs3
  refine (impl_leastPlane.one k l1 v s1.1 A1 c1 s1.2.1 s1.2.2 s2 vw _ _ _ _ _ w W hn (fun x hx => ?_) hr i2 i3 i4 i5 i7 hC hc i8 (by omega) (by omega) (by omega) (by omega) (by omega) hs3).mono ?_
  · have := wts_bd 3 _ v hm x hx
    omega
  · rintro e W' ⟨rfl, j1, j2, j3, j4, vw', j5, j6, j7, j8, j9⟩
    exact ⟨rfl, ⟨s2, vw', hs2, j2, j3, j4, j5, (j9 _ (blk_lt i6) (by omega) (by omega)).trans i6, j6, j7⟩, j1.trans hr.symm⟩
theorem impl_leastPlane.all (k : Nat) (l1 : List Int) (n : Nat) (A1 : Option Addr) (c1 : Nat) (w : World) (s : List Int × Int × Int) (hn : n ≤ 8) (hs : (wts 3 n).foldlM (impl_leastPlane.step k l1 (n : Int)) ([], 0, 1000000000) = some s)
    (hC : Kd.C (Kd.int .i64) w A1 l1.length l1) (hc : l1.length ≤ c1) :
    Calls Try.prog 128 #[.int .i64 (n : Int), .int .i64 3, .func (.func 129) #[] #[.pointer (some ⟨w.heap.size + 1 + 1 + 1 + 1, 0, none⟩), .pointer (some ⟨w.heap.size + 1, 0, none⟩), .pointer (some ⟨w.heap.size, 0, none⟩), .pointer (some ⟨w.heap.size + 1 + 1 + 1, 0, none⟩)]]
      (((((w.alloc (.cells #[.int .i64 (n : Int)] 3)).alloc (.cells #[.slice A1 l1.length c1] 24)).alloc (.cells #[.slice none 0 0, .int .i64 0] 28)).alloc (.cells #[.slice none 0 0, .int .i64 0] 28)).alloc (.cells #[.int .i64 1000000000] 3)) fun e w' => e = .returned (.tuple #[]) ∧ impl_leastPlane.Inv k l1 n A1 c1 w (wts 3 n) w' := by
  have hz : (impl_leastPlane.W5 n l1 A1 c1 w).heap.size = w.heap.size + 1 + 1 + 1 + 1 + 1 := by simp [impl_leastPlane.W5]
  refine smallWeights_calls n 3 hn (by decide) 129 Try.f129 Try.func129 (by kernel_rfl) rfl _ (impl_leastPlane.W5 n l1 A1 c1 w) (impl_leastPlane.Inv k l1 n A1 c1 w) (impl_leastPlane.start k l1 n A1 c1 w) ?_ (impl_leastPlane.drews k l1 n A1 c1 w) ?_
  · rw [hz]; exact impl_leastPlane.sets k l1 n A1 c1 w
  · rw [hz]; exact impl_leastPlane.steps k l1 n A1 c1 w s hn hs hC hc
theorem impl_leastPlane.calls (k : Nat) (a0 : Int) (A1 : Option Addr) (c1 : Nat) (l1 : List Int) (r1 : List Int) (r2 : Int) (r3 : Int) (r4 : Bool) (w : World) (hr1 : Kd.C (Kd.int .i64) w A1 l1.length l1) (hc1 : l1.length ≤ c1) (h : impl_leastPlane.f k a0 l1 = some (r1, r2, r3, r4)) :
    Calls Try.prog 75 #[.int .i64 a0, .slice A1 l1.length c1] w fun e w' => ∃ v0_ : Value, e = .returned (.tuple #[.agg #[v0_, .int .i64 r2], .int .i64 r3, .bool r4]) ∧ Kd.R (Kd.int .i64) 3 w' w.heap.size (fun _ => True) v0_ r1 ∧ Below w.heap.size w w' := by
 have HR1 := aM hr1
 have HC1 := aM hc1
 clear hr1 hc1
 unfold impl_leastPlane.f at h
 by_cases c : 0 ≤ a0 ∧ a0 ≤ 8
 ·
  rw [if_pos c] at h
  obtain ⟨n, rfl⟩ := Int.eq_ofNat_of_zero_le c.1
  have hn : n ≤ 8 := by omega
  simp only [Int.toNat_natCast] at h
  obtain ⟨s, hs, h⟩ := oB.mp h
  have HS := aM hs
  cases h
  clear c hs
  clear h
  go_enter Try.func75, Try.ntmps75
  go_wp2_with (first | (go_at_call 128; (with_reducible refine (impl_leastPlane.all k l1 n A1 c1 w s hn HS.out HR1.out HC1.out).mono ?_); rintro e w5 ⟨rfl, hi⟩; obtain ⟨s2, vw, i1, i2, i3, i4, i5, i6, i7, i8⟩ := hi; rw [HS.out] at i1; cases i1; obtain ⟨Av, cv, rfl⟩ := Kd.R_slice i7; have J2 := aM i2; have J5 := aM i5; have J6 := aM i6; have J7 := aM i7; have J8 := aM i8; clear i2 i3 i4 i5 i6 i7 i8))
  generalize hgs : w.heap.size + 1 + 1 + 1 + 1 = gs at J2 J7 ⊢
  generalize hgb : w.heap.size + 1 + 1 + 1 = gb at J5 ⊢
  generalize hgr : w.heap.size + 1 + 1 = gr at J6 ⊢
  generalize w.heap.size + 1 = gt at ⊢
  replace J2 := aM (bD J2.out)
  replace J5 := aM (bD J5.out)
  replace J6 := aM (bD J6.out)
  replace J7 := aM (rD J7.out)
  replace J8 := aM (eD J8.out)
  refine start_ (n := 7) (S := fun w' => w'.cell? ⟨gb, 0, none⟩ = some (.slice Av s.1.length cv) ∧ w'.cell? ⟨gb, 1, none⟩ = some (.int .i64 s.2.1) ∧ w'.cell? ⟨gs, 0, none⟩ = some (.int .i64 s.2.2)) (ds := []) (bm 7 0) (by kernel_rfl) rfl rfl ⟨(bC J5.out 0).trans rfl, (bC J5.out 1).trans rfl, (bC J2.out 0).trans rfl⟩ (fun hHeld => ?_)
  generalize w5.drew = w6 at J2 J5 J6 J7 J8 hHeld ⊢
  refine yt3 0 13 (bm 7 1) hHeld ?_
  refine yt3 1 14 (bm 7 3) hHeld ?_
  refine yt3 2 15 (bm 7 7) hHeld ?_
  refine yp 3 16 (bm 7 15) ?_
  refine one_ (i := 4) (N := none) (bm 7 31) rfl rfl (by kernel_rfl) (by decide) (fun K hK => ?_)
  have hr0 : w6.cell? ⟨gr, 0, none⟩ = some (.slice none 0 0) := (bC J6.out 0).trans rfl
  have hr1 : w6.cell? ⟨gr, 1, none⟩ = some (.int .i64 0) := (bC J6.out 1).trans rfl
  have hr2 := bF J6.out 0
  have hr3 := bF J6.out 1
  refine skip_ (w1 := ?_) (by rfl) rfl ?_ ?_
  rotate_left
  ·
   go_simp
   rfl
  have n0_ := aM (blk_put (blk_put J6.out 0 (Value.slice Av s.1.length cv) rfl) 1 (.int .i64 s.2.1) rfl)
  have n1_ := aM (blk_far (p := ⟨gr, 1, none⟩) (blk_far (p := ⟨gr, 0, none⟩) J5.out (show gb ≠ gr by omega) (Value.slice Av s.1.length cv)) (show gb ≠ gr by omega) (.int .i64 s.2.1))
  have n2_ := aM (blk_far (p := ⟨gr, 1, none⟩) (blk_far (p := ⟨gr, 0, none⟩) J2.out (show gs ≠ gr by omega) (Value.slice Av s.1.length cv)) (show gs ≠ gr by omega) (.int .i64 s.2.1))
  have n4_ := aM (eS (j := 1) (v := .int .i64 s.2.1) (eS (j := 0) (v := Value.slice Av s.1.length cv) J8.out (show w.heap.size ≤ gr by omega)) (show w.heap.size ≤ gr by omega))
  have n3_ := aM (rM (Kd.R_far (p := ⟨gr, 1, none⟩) (Kd.R_far (p := ⟨gr, 0, none⟩) (Kd.R_types J7.out J6.out (by decide)) (fun _ hk => hk.2) (Value.slice Av s.1.length cv)) (fun _ hk => hk.2) (.int .i64 s.2.1)) (fun _ hk => hk.1))
  refine hK.out _ _ ⟨(bC n1_.out 0).trans rfl, (bC n1_.out 1).trans rfl, (bC n2_.out 0).trans rfl⟩ (fun hHeld => ?_)
  clear hK K
  refine yp 5 5 (bm 7 63) ?_
  refine yp 6 6 (bm 7 127) ?_
  refine done_ (by kernel_rfl) ?_
  go_wp2
  refine bodyPost_ret (results_ctt rfl _ _ gr 28 #[.slice Av s.1.length cv, .int .i64 s.2.1] (0, 0) _ rfl n0_.out Try.underlying28 rfl (by kernel_rfl)) rfl ?_
  exact ⟨_, rfl, rM n3_.out (fun _ _ => trivial), n4_.out⟩
 · rw [if_neg c] at h; cases h
def impl_LeastPlane.j0 : Nat → Int → List Int → Bool → Option (List Int × Int × Bool)
  | 0, _, _, _ => none
  | k + 1, x0, x1, x16 => if x16 = true then (some (([] : List Int), 0, false)) else ((impl_leastPlane.f k x0 x1).bind fun bt285 => (if bt285.2.2.2 = true then (some (bt285.1, bt285.2.1, true)) else (some (([] : List Int), 0, false))))
def impl_LeastPlane.f (k : Nat) (a0 : Int) (l1 : List Int) : Option (List Int × Int × Bool) := if a0 = 0 then (impl_LeastPlane.j0 k a0 l1 true) else ((impl_isTable.f k a0 l1).bind fun t284 => (impl_LeastPlane.j0 k a0 l1 (!t284)))
theorem impl_LeastPlane.calls (k : Nat) (a0 : Int) (A1 : Option Addr) (c1 : Nat) (l1 : List Int) (r1 : List Int) (r2 : Int) (r3 : Bool) (w : World) (hr1 : Kd.C (Kd.int .i64) w A1 l1.length l1) (hc1 : l1.length ≤ c1) (h : impl_LeastPlane.f k a0 l1 = some (r1, r2, r3)) :
    Calls Try.prog 9 #[.int .i64 a0, .slice A1 l1.length c1] w fun e w' => ∃ v0_ : Value, e = .returned (.tuple #[.agg #[v0_, .int .i64 r2], .bool r3]) ∧ Kd.R (Kd.int .i64) 3 w' w.heap.size (fun _ => True) v0_ r1 ∧ Below w.heap.size w w' := by
 have hu28 := Try.underlying28
 have HR1 := aM hr1
 have HC1 := aM hc1
 clear hr1 hc1
 have HB := aM (Below.refl w.heap.size w)
 have H : (if a0 = 0 then (impl_LeastPlane.j0 k a0 l1 true) else ((impl_isTable.f k a0 l1).bind fun t284 => (impl_LeastPlane.j0 k a0 l1 (!t284)))) = some (r1, r2, r3) := h
 clear h
 have HC3 := aM H
 clear H
 go_enter Try.func9, Try.ntmps9
 go_upto_region 1 with (first | (refine yB 4 #[.slice none 0 0, .int .i64 0] 28 ?_; intro gb283 hg w4 hbox hb; have BK283 := aM (hbox); have GW283 := yV0 hg HB; have GE283 := yV0 hg HB; replace HB := yS0 HB hb; clear hb hbox hg))
 (try simp only [Act.put, sA, sZ, sU])
 go_cut [16] (fun v16 wc => ∃ (kq : Nat) (x16_2 : Bool), v16 = .bool x16_2 ∧ Aside0 (impl_LeastPlane.j0 kq a0 l1 x16_2 = some (r1, r2, r3)) ∧ Aside0 (kq ≤ k) ∧ Aside0 (wc.heap[gb283]? = some (.cells #[(.slice none 0 0), .int .i64 0] 28 (0, 0))) ∧ Aside0 (Below w.heap.size w wc))
 case first =>
  have H := HC3.out
  clear HC3
  obtain ⟨c5, -, H⟩ | ⟨c5, -, H⟩ := yif H
  ·
   have c5b0 : (a0 == 0) = true := beq_iff_eq.mpr c5
   have c5b1 : (a0 != 0) = false := bne_eq_false_iff_eq.mpr c5
   clear c5
   (first | rw [c5b0] | (simp only [i64_w, i32_w]; rw [c5b0]) | rw [c5b1] | skip)
   have H' := aM H
   clear H
   go_wp2
   go_meet
   case rel => exact ⟨_, (true), yZ, H', ⟨yM⟩, ⟨xB BK283.out⟩, ⟨xG1 HB.out GE283.out⟩⟩
  have c5b0 : (a0 == 0) = false := beq_eq_false_iff_ne.mpr c5
  have c5b1 : (a0 != 0) = true := bne_iff_ne.mpr c5
  (first | rw [c5b0] | (simp only [i64_w, i32_w]; rw [c5b0]) | rw [c5b1] | skip)
  replace H := oB.mp H
  obtain ⟨t284, A60, H⟩ := H
  have A6 := aM A60
  clear A60
  have H' := aM H
  clear H
  go_wp2_with (first | (go_at_call 74; (with_reducible refine (impl_isTable.calls k a0 _ _ l1 t284 _ (xC (Kd.C_below HR1.out HB.out)) HC1.out A6.out).mono ?_); rintro e w' ⟨rfl, ⟨nd, rfl⟩⟩))
  go_meet
  case rel => exact ⟨_, (!t284), yZ, H', ⟨yM⟩, ⟨xB BK283.out⟩, ⟨xG1 HB.out GE283.out⟩⟩
 case rest =>
  clear HC3
  try clear c1
  try clear c5
  try clear c5b0
  try clear c5b1
  obtain ⟨kq, x16_2, rfl, HA, HJ2, BK283, HB⟩ := hcut
  cases kq with
  | zero => exact absurd HA.out (by simp [impl_LeastPlane.j0])
  | succ kj2 =>
   have H := HA.out
   clear HA
   simp only [impl_LeastPlane.j0] at H
   by_cases c7 : x16_2 = true
   ·
    subst c7
    rw [if_pos rfl] at H
    simp only [Option.some.injEq, Prod.mk.injEq] at H
    obtain ⟨rfl, rfl, rfl⟩ := H
    have hcz8_0 : wc.cell? ⟨gb283, 0, none⟩ = some (.slice none 0 0) := (bC BK283.out 0).trans rfl
    have hcz8_1 : wc.cell? ⟨gb283, 1, none⟩ = some (.int .i64 0) := (bC BK283.out 1).trans rfl
    have hfz8_0 := bF BK283.out 0
    have hfz8_1 := bF BK283.out 1
    go_wp2
    refine bodyPost_ret (results_ct rfl _ _ gb283 28 #[.slice none 0 0, .int .i64 0] (0, 0) _ rfl (by (with_reducible repeat (first | refine bN ?_ _ | refine bD ?_ | refine bA ?_ _)); refine blk_put (cs := #[.slice none 0 0, .int .i64 0]) ?_ 1 _ rfl; (with_reducible repeat (first | refine bN ?_ _ | refine bD ?_ | refine bA ?_ _)); refine blk_put (cs := #[.slice none 0 0, .int .i64 0]) ?_ 0 _ rfl; (with_reducible repeat (first | refine bN ?_ _ | refine bD ?_ | refine bA ?_ _)); exact BK283.out) Try.underlying28 rfl (by kernel_rfl)) rfl ?_
    exact ⟨_, yF, yNi, xG1 HB.out GE283.out⟩
   replace c7 := Bool.eq_false_iff.mpr c7
   subst c7
   rw [if_neg (show ¬ (false = true) by decide)] at H
   replace H := oB.mp H
   obtain ⟨⟨t285, t288, t289, t290⟩, A90, H⟩ := H
   (try dsimp only at H)
   have A9 := aM A90
   clear A90
   by_cases c10 : t290 = true
   rotate_left
   ·
    replace c10 := Bool.eq_false_iff.mpr c10
    subst c10
    rw [if_neg (show ¬ (false = true) by decide)] at H
    simp only [Option.some.injEq, Prod.mk.injEq] at H
    obtain ⟨rfl, rfl, rfl⟩ := H
    go_wp2_with (first | (refine yL 21 Try.func75 #[.int .i64 a0, .slice A1 l1.length c1] ?_; (with_reducible refine (impl_leastPlane.calls kj2 a0 _ _ l1 t285 t288 t289 false _ (xC (Kd.C_below HR1.out HB.out)) HC1.out A9.out).mono ?_); rintro e w17 ⟨v286, rfl, ho0, hb⟩; refine ⟨_, rfl, ?_⟩; have HO287 := aM (Kd.R_lower ho0 (below_size (xG1 HB.out GE283.out))); replace BK283 := yK BK283 hb; replace HB := yS1 HB GE283 hb; (try clear hb; try clear ho0)) | (refine yB 6 #[.slice none 0 0, .int .i64 0] 28 ?_; intro gb291 hg w18 hbox hb; replace HO287 := aM (Kd.R_below (xR HO287.out) hb); have BK291 := aM (hbox); have GW291 := yV1 hg HB GE283; have GE291 := yV1 hg HB GE283; replace HB := yS1 HB GE283 hb; have NB283_291 := yX hg BK283; have NB291_283 := yY NB283_291; replace BK283 := yK BK283 hb; clear hb hbox hg; obtain ⟨Ao19, co19, eo19⟩ := Kd.R_slice HO287.out; subst eo19; have hnb20 := NB291_283.out; have hnc20 := NB283_291.out; obtain ⟨hcz21_0, hcz21_1, hfz21_0, hfz21_1⟩ := yD2 BK291; obtain ⟨hcz22_0, hcz22_1, hfz22_0, hfz22_1⟩ := yD2 BK283))
    refine bodyPost_ret (results_ct rfl _ _ gb283 28 #[.slice none 0 0, .int .i64 0] (0, 0) _ rfl (by (with_reducible repeat (first | refine bN ?_ _ | refine bD ?_ | refine bA ?_ _)); refine blk_put (cs := #[.slice none 0 0, .int .i64 0]) ?_ 1 _ rfl; (with_reducible repeat (first | refine bN ?_ _ | refine bD ?_ | refine bA ?_ _)); refine blk_put (cs := #[.slice none 0 0, .int .i64 0]) ?_ 0 _ rfl; (with_reducible repeat (first | refine bN ?_ _ | refine bD ?_ | refine bA ?_ _)); refine blk_far ?_ NB283_291.out _; (with_reducible repeat (first | refine bN ?_ _ | refine bD ?_ | refine bA ?_ _)); refine blk_far ?_ NB283_291.out _; (with_reducible repeat (first | refine bN ?_ _ | refine bD ?_ | refine bA ?_ _)); exact BK283.out) Try.underlying28 rfl (by kernel_rfl)) rfl ?_
    exact ⟨_, yF, yNi, xG2 HB.out GE283.out GE291.out⟩
   subst c10
   rw [if_pos rfl] at H
   simp only [Option.some.injEq, Prod.mk.injEq] at H
   obtain ⟨rfl, rfl, rfl⟩ := H
   go_wp2_with (first | (refine yL 21 Try.func75 #[.int .i64 a0, .slice A1 l1.length c1] ?_; (with_reducible refine (impl_leastPlane.calls kj2 a0 _ _ l1 t285 t288 t289 true _ (xC (Kd.C_below HR1.out HB.out)) HC1.out A9.out).mono ?_); rintro e w11 ⟨v286, rfl, ho0, hb⟩; refine ⟨_, rfl, ?_⟩; have HO287 := aM (Kd.R_lower ho0 (below_size (xG1 HB.out GE283.out))); replace BK283 := yK BK283 hb; replace HB := yS1 HB GE283 hb; (try clear hb; try clear ho0)) | (refine yB 6 #[.slice none 0 0, .int .i64 0] 28 ?_; intro gb291 hg w12 hbox hb; replace HO287 := aM (Kd.R_below (xR HO287.out) hb); have BK291 := aM (hbox); have GW291 := yV1 hg HB GE283; have GE291 := yV1 hg HB GE283; replace HB := yS1 HB GE283 hb; have NB283_291 := yX hg BK283; have NB291_283 := yY NB283_291; replace BK283 := yK BK283 hb; clear hb hbox hg; obtain ⟨Ao13, co13, eo13⟩ := Kd.R_slice HO287.out; subst eo13; have hnb14 := NB291_283.out; have hnc14 := NB283_291.out; obtain ⟨hcz15_0, hcz15_1, hfz15_0, hfz15_1⟩ := yD2 BK291; obtain ⟨hcz16_0, hcz16_1, hfz16_0, hfz16_1⟩ := yD2 BK283))
   refine bodyPost_ret (results_ct rfl _ _ gb283 28 #[.slice Ao13 t285.length co13, .int .i64 t288] (0, 0) _ rfl (by (with_reducible repeat (first | refine bN ?_ _ | refine bD ?_ | refine bA ?_ _)); refine blk_put (cs := #[.slice Ao13 t285.length co13, .int .i64 0]) ?_ 1 _ rfl; (with_reducible repeat (first | refine bN ?_ _ | refine bD ?_ | refine bA ?_ _)); refine blk_put (cs := #[.slice none 0 0, .int .i64 0]) ?_ 0 _ rfl; (with_reducible repeat (first | refine bN ?_ _ | refine bD ?_ | refine bA ?_ _)); refine blk_far ?_ NB283_291.out _; (with_reducible repeat (first | refine bN ?_ _ | refine bD ?_ | refine bA ?_ _)); refine blk_far ?_ NB283_291.out _; (with_reducible repeat (first | refine bN ?_ _ | refine bD ?_ | refine bA ?_ _)); exact BK283.out) Try.underlying28 rfl (by kernel_rfl)) rfl ?_
   exact ⟨_, yF, zR (rM (Kd.R_far (p := ⟨gb283, 1, none⟩) (Kd.R_far (p := ⟨gb283, 0, none⟩) (Kd.R_far (p := ⟨gb291, 1, none⟩) (Kd.R_far (p := ⟨gb291, 0, none⟩) (Kd.R_types (Kd.R_types HO287.out BK291.out (by decide)) BK283.out (by decide)) (fun _ hk => hk.1.2) (.slice Ao13 t285.length co13)) (fun _ hk => hk.1.2) (.int .i64 t288)) (fun _ hk => hk.2) (.slice Ao13 t285.length co13)) (fun _ hk => hk.2) (.int .i64 t288)) (fun _ hk => trivial)), xG2 HB.out GE283.out GE291.out⟩
end Go.Proofs.Ytmfmgnpefjmieaa.PFnThresholdTables
