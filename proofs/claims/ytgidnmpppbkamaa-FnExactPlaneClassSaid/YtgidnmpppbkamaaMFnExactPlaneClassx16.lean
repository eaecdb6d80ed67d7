-- Laid for this claim by a program of the session's own (wip/tool/myprint.py).
import Derived.Test.YtgidnmpppbkamaaMFnExactPlaneClassx0
import Derived.Test.YtgidnmpppbkamaaMFnExactPlaneClassx11
import Derived.Test.YtgidnmpppbkamaaMFnExactPlaneClassx12
import Derived.Test.YtgidnmpppbkamaaMFnExactPlaneClassx15
namespace Go.Proofs.Ytgidnmpppbkamaa.PFnExactPlaneClass
open Go.RowKit Go.Proofs.YtgidnmpppbkamaaW.PrintWords Go.Proofs.YtgidnmpppbkamaaW.PrintLast Go.Proofs.YtgidnmpppbkamaaW.PrintMore
attribute [local go_sem] max2_int min2_int max_two min_two max_three min_three max_four min_four
set_option linter.unusedVariables false
set_option maxHeartbeats 8000000
set_option maxRecDepth 100000
set_option linter.unusedSimpArgs false
def impl_copied.f (l0 : List Int) : Option (List Int) := (some (([] : List Int) : List Int)).bind fun y418 => (if y418.length + l0.length < 17592186044416 then (some (y418 ++ l0)) else (none))
theorem impl_copied.calls (A0 : Option Addr) (c0 : Nat) (l0 : List Int) (r : List Int) (w : World) (hr0 : Kd.C (Kd.int .i64) w A0 l0.length l0) (hc0 : l0.length ≤ c0) (h : impl_copied.f l0 = some r) :
  Calls Try.prog 80 #[.slice A0 l0.length c0] w fun e w' => ∃ v0_ : Value, e = .returned (v0_) ∧ Kd.R (Kd.int .i64) 3 w' w.heap.size (fun _ => True) v0_ r ∧ Below w.heap.size w w' := by
 have HR0 := aM hr0
 have HC0 := aM hc0
 clear hr0 hc0
 have HB := aM (Below.refl w.heap.size w)
 have H : ((some (([] : List Int) : List Int)).bind fun y418 => (if y418.length + l0.length < 17592186044416 then (some (y418 ++ l0)) else (none))) = some r := h
 clear h
 obtain ⟨y418, hy418⟩ := yE (([] : List Int) : List Int)
 replace H : (if y418.length + l0.length < 17592186044416 then (some (y418 ++ l0)) else (none)) = some r := yI hy418 H
 have Ny418 := aM hy418
 clear hy418
 by_cases c2 : y418.length + l0.length < 17592186044416
 rotate_left
 ·
  rw [if_neg c2] at H
  exact absurd H (by simp)
 rw [if_pos c2] at H
 have LMc2 := aM c2
 clear c2
 obtain ⟨y421, hy421⟩ := yE (y418 ++ l0 : List Int)
 replace H : (some y421) = some r := yI hy421 H
 have Ny421 := aM hy421
 clear hy421
 obtain rfl := Option.some.inj H
 go_enter Try.func80, Try.ntmps80
 go_wp2_with (first | ((with_reducible refine gate_dst (N := 3) rfl ?_); refine Kd.R_lit (Kd.int .i64) _ 3 ?hg (N := 3) ?hd (xs := ([] : List Int)) (inner := []) (ok := fun _ => True) (okp := fun _ => True) ?hr ?hp (fun _ hk => hk) trivial (Below.refl _ _) (Nat.le_refl _) (by simp) ?_; (case hd => rfl); (case hg => rfl); (case hr => first | (go_simp; done) | (go_simp; rfl)); (case hp => exact (Reps.none _ _)); intro v419 w3 ho4 hb hg_ hnew_; clear hg_ hnew_; (first | rw [← Ny418.out] at ho4 | (simp only [Int.reduceToNat] at ho4; rw [← Ny418.out] at ho4)); have HO420 := aM (Kd.R_lower ho4 (below_size (xH HB.out))); replace HB := yS0 HB hb; clear hb ho4) | ((with_reducible refine gate_builtin (b := .append) (xs := #[.tmp 3, .tmp 4]) rfl ?_); at_builtin; refine Kd.R_append_rows (Kd.int .i64) (w0 := w) w.heap.size rfl (.tmp 3) (.tmp 4) 22 3 (.int .i64 0) 8 rfl Try.underlying22 info3 rfl (by decide) (by omega) v419 y418 l0 _ _ _ (fun _ => True) (fun _ => False) rfl rfl ?aO ?aR (fun _ _ h => h) (fun _ h => h.elim) ?aF ?aB ?aS ?aL ?_; (case aR => exact xC (Kd.C_below HR0.out HB.out)); (case aB => exact (xH HB.out)); (case aF => exact (fun _ _ => trivial)); (case aO => exact (xR HO420.out)); (case aS => exact (below_size (xH HB.out))); (case aL => have := LMc2.out; omega); intro v422 w5 ho hb hg hat; rw [← Ny421.out] at ho; replace HB := aM (hb); have HO423 := aM (ho); clear HO420; clear ho hb hg hat))
 go_ret
 exact ⟨_, yF, xR HO423.out, by repeat (first | (with_reducible first | exact HB.out | apply eA | apply eN | apply eD) | exact HB.out)⟩
def impl_Sample_canPart.rows (k : Nat) (P : List (List Int)) (L : List Int) : List Int → Option (List (List Int))
 | [] => some []
 | i :: s => (impl_Sample_signed.f k P L i).bind fun v => (impl_Sample_canPart.rows k P L s).bind fun vs => some (v :: vs)
def impl_Sample_canPart.one (k : Nat) (P : List (List Int)) (L : List Int) (s : List Int) : Option Bool :=
 (impl_Sample_canPart.rows k P L s).bind fun vs => (impl_balance.f k vs).bind fun b => (impl_copied.f s).bind fun _ => some b.2
theorem impl_Sample_canPart.drop (s : List Int) (j : Nat) (h : j < s.length) : s.drop j = rd s (j : Int) :: s.drop (j + 1) := by
 rw [List.drop_eq_getElem_cons h]
 simp [rd, List.getD_eq_getElem?_getD, List.getElem?_eq_getElem h]
theorem impl_Sample_canPart.fr_set {S : Nat → Prop} {W : World} {g : Nat} (hS : S g) (i : Nat) (v : Value) : Fr S W (W.setCell ⟨g, i, none⟩ v) :=
 ⟨(Below.refl 0 W).setCell (Nat.zero_le _) _, fun j _ hj => Below.heap_setCell W ⟨g, i, none⟩ v j (fun e => hj (by rw [e]; exact hS))⟩
set_option maxHeartbeats 16000000 in
theorem impl_Sample_canPart.visit (k : Nat) (P : List (List Int)) (L : List Int) (A0 A1 : Option Addr) (c0 c1 : Nat) (s : List Int) (A : Option Addr) (c : Nat) (b : Bool) (bs bt bn : Nat) (vt vn : Value) (W : World) (hsl : s.length ≤ 1000)
  (hbs : W.heap[bs]? = some (.cells #[.slice A0 P.length c0, .slice A1 L.length c1] 43 (0, 0))) (hbt : W.heap[bt]? = some (.cells #[vt] 22 (0, 0))) (hbn : W.heap[bn]? = some (.cells #[vn] 22 (0, 0))) (hnt : bt ≠ bn)
  (hC0 : Kd.C (Kd.slice 3 (Kd.int .i64)) W A0 P.length P) (hc0 : P.length ≤ c0) (hC1 : Kd.C (Kd.int .i64) W A1 L.length L) (hc1 : L.length ≤ c1) (hs : Kd.C (Kd.int .i64) W A s.length s) (hsc : s.length ≤ c) (h : impl_Sample_canPart.one k P L s = some b) :
  Calls Try.prog 77 #[.slice A s.length c, .pointer (some ⟨bs, 0, none⟩), .pointer (some ⟨bt, 0, none⟩), .pointer (some ⟨bn, 0, none⟩)] W fun e W' => e = .returned (.bool b) ∧ ((∃ vt' : Value, W'.heap[bt]? = some (.cells #[vt'] 22 (0, 0))) ∧ ∃ vn' : Value, W'.heap[bn]? = some (.cells #[vn'] 22 (0, 0))) ∧ Fr (fun x => x = bt ∨ x = bn) W W' := by
 unfold impl_Sample_canPart.one at h
 obtain ⟨vs, hvs, h⟩ := oB.mp h
 obtain ⟨⟨bl, ok⟩, hbl, h⟩ := oB.mp h
 obtain ⟨cp, hcp, h⟩ := oB.mp h
 obtain rfl : ok = b := Option.some.inj h
 have hu := Try.underlying43
 have HVS := aM hvs
 have HBL := aM hbl
 have HCP := aM hcp
 have HBS := aM hbs
 have HBT := aM hbt
 have HBN := aM hbn
 have HNE := aM hnt
 have HC0 := aM hC0
 have HK0 := aM hc0
 have HC1 := aM hC1
 have HK1 := aM hc1
 have HS := aM hs
 have HSC := aM hsc
 have HSL := aM hsl
 clear hvs hbl hcp hbs hbt hbn hnt hC0 hc0 hC1 hc1 hs hsc hsl h
 have HB := aM (Below.refl W.heap.size W)
 go_enter Try.func77, Try.ntmps77
 go_wp2_with (first | ((with_reducible refine gate_dst (N := 11) rfl ?_); refine Kd.S_lit (Kd.slice 3 (Kd.int .i64)) _ 22 ?hg (N := 11) ?hd (xs := ([] : List (List Int))) (inner := []) (ok := fun _ => True) (okp := fun _ => True) ?hr ?hp (fun _ hk => hk) trivial (Below.refl _ _) (Nat.le_refl _) (by simp) ?_; (case hd => rfl); (case hg => rfl); (case hr => first | (go_simp; done) | (go_simp; rfl)); (case hp => exact (Reps.none _ _)); intro v102 w2 ho3 hb hg_ hnew_; clear hg_ hnew_; have HO := aM (Kd.S_lower ho3 (below_size HB.out)); replace HB := aM (below_step HB.out hb); clear hb ho3))
 go_loopw [6, 14] (fun v6 v14 w' => ∃ (j : Nat) (V : List (List Int)), v14 = .int .i64 (j : Int) ∧ Aside0 (j ≤ s.length ∧ V.length = j) ∧ Aside0 ((impl_Sample_canPart.rows k P L (s.drop j)).map (fun x => V ++ x) = some vs) ∧ Aside0 (Kd.S (Kd.slice 3 (Kd.int .i64)) 22 w' W.heap.size (fun _ => True) v6 V) ∧ Aside0 (Below W.heap.size W w')) (fun _ v14 _ => s.length - (intOf v14).toNat)
 case atStart => exact ⟨0, [], rfl, ⟨Nat.zero_le _, rfl⟩, ⟨by have h := HVS.out; simpa using h⟩, HO, HB⟩
 case round =>
  clear HO HB
  obtain ⟨j, V, rfl, HJ, HR, HO, HB⟩ := hrel
  by_cases cj : j < s.length
  ·
   have d0 : decide ((j : Int) < (s.length : Int)) = true := decide_eq_true (by omega)
   have d1 : decide (j < s.length) = true := decide_eq_true cj
   have p0 : (0 ≤ (j : Int)) = True := eq_true (by omega)
   have p1 : ((j : Int) < (s.length : Int)) = True := eq_true (by omega)
   have hJb : j < 1000 := Nat.lt_of_lt_of_le cj HSL.out
   have hR := HR.out
   rw [impl_Sample_canPart.drop s j cj] at hR
   simp only [impl_Sample_canPart.rows] at hR
   obtain ⟨x, hR, hx⟩ := Option.map_eq_some_iff.mp hR
   obtain ⟨v, hv, hR⟩ := oB.mp hR
   obtain ⟨y, hy, hR⟩ := oB.mp hR
   obtain rfl := Option.some.inj hR
   have HV := aM hv
   have HCJ := aM cj
   have HR2 := aM (show (impl_Sample_canPart.rows k P L (s.drop (j + 1))).map (fun x => (V ++ [v]) ++ x) = some vs by rw [hy, ← hx]; simp)
   obtain ⟨ad, e, hc⟩ := Kd.at_int (Kd.C_below HS.out HB.out) (j : Int) (by omega) (by omega)
   cases e
   rw [Int.toNat_natCast] at hc
   have hz0 := (bC ((HB.out.block bs (blk_lt HBS.out)).trans HBS.out) 0).trans (show _ = some (.slice A0 P.length c0) from rfl)
   have hz1 := (bC ((HB.out.block bs (blk_lt HBS.out)).trans HBS.out) 1).trans (show _ = some (.slice A1 L.length c1) from rfl)
   clear hv hy hx hR HR cj
   go_wp2_with (first | (go_at_call 78; (with_reducible refine (impl_Sample_signed.calls k _ _ P _ _ L (rd s (j : Int)) v _ ?sa ?sb ?sc ?sd HV.out).mono ?_); (case sa => repeat (first | exact (Kd.C_below HC0.out HB.out) | (with_reducible refine Kd.C_alloc ?_ _) | (with_reducible refine Kd.C_drew ?_) | (with_reducible refine Kd.C_drewN ?_ _))); (case sb => exact HK0.out); (case sc => repeat (first | exact (Kd.C_below HC1.out HB.out) | (with_reducible refine Kd.C_alloc ?_ _) | (with_reducible refine Kd.C_drew ?_) | (with_reducible refine Kd.C_drewN ?_ _))); (case sd => exact HK1.out); rintro e w3 ⟨v21, rfl, hr, hb⟩; have HO := aM (Kd.S_elder' (xS HO.out) (Kd.R_base hr) hb); have HH := aM (Kd.R_lower hr (below_size (xH HB.out))); have HB := yS0 HB hb; obtain ⟨Ah, ch, eh⟩ := Kd.R_slice HH.out; subst eh) | ((with_reducible refine gate_builtin (b := .append) (xs := #[.tmp 18, .tmp 22]) rfl ?_); at_builtin; refine Kd.S_append (Kd.slice 3 (Kd.int .i64)) (w0 := W) W.heap.size rfl (.tmp 18) (.tmp 22) 32 22 (.slice none 0 0) 24 rfl Try.underlying32 info22 rfl (by decide) (by omega) u6 V v [.slice Ah v.length ch] (fun _ => True) (fun k_ => some k_ = (.slice Ah v.length ch : Value).ownBlock) rfl rfl ?aP (fun k_ hk_ => ((rM (ok' := fun k_ => ((fun _ => True)) k_ ∧ some k_ ≠ (u6 : Value).ownBlock) (Kd.R_apart' (HH.out) (Kd.S_typed HO.out) (by decide)) (fun k_ hk => ⟨trivial, hk.2⟩))).1 k_ hk_.symm) ?aF ?aO ?aB ?aS ?aL ?_; (case aP => exact Kd.M_row (rM (Kd.R_tight rfl (rM (ok' := fun k_ => ((fun _ => True)) k_ ∧ some k_ ≠ (u6 : Value).ownBlock) (Kd.R_apart' (HH.out) (Kd.S_typed HO.out) (by decide)) (fun k_ hk => ⟨trivial, hk.2⟩))) (fun _ h_ => h_))); (case aB => exact (xH HB.out)); (case aF => exact (fun _ _ => trivial)); (case aO => exact (zS (Kd.S_mono HO.out (fun k_ hk => ⟨trivial, fun e_ => hk.2 e_⟩)))); (case aS => exact (below_size (xH HB.out))); (case aL => have := HJ.out; have := HSL.out; omega); intro v23 w16 ho hb hg hat; replace HB := aM (hb); replace HO := aM (ho); clear HH; clear ho hb hg hat))
   go_roundw
   case rel => exact ⟨j + 1, V ++ [v], by go_num, ⟨HCJ.out, by have := HJ.out; simp; omega⟩, HR2, HO, HB⟩
   case measure => have := HCJ.out; simp [intOf]; omega
  ·
   have d0 : decide ((j : Int) < (s.length : Int)) = false := decide_eq_false (by omega)
   have d1 : decide (j < s.length) = false := decide_eq_false cj
   have hR := HR.out
   rw [List.drop_of_length_le (by omega)] at hR
   simp only [impl_Sample_canPart.rows, Option.map_some, List.append_nil] at hR
   obtain rfl := Option.some.inj hR
   obtain ⟨Av, cv, ev⟩ := Kd.S_slice HO.out
   subst ev
   clear hR HR cj
   cases ok with
   | false =>
    go_wp2_with (first | (go_at_call 79; (with_reducible refine (impl_balance.calls k _ _ V bl false _ ?sa ?sb HBL.out).mono ?_); (case sa => repeat (first | exact (Kd.S_reads' HO.out).2.2 | (with_reducible refine Kd.C_alloc ?_ _) | (with_reducible refine Kd.C_drew ?_) | (with_reducible refine Kd.C_drewN ?_ _))); (case sb => exact (Kd.S_reads' HO.out).2.1); rintro e w5 ⟨v27, rfl, hr, hb⟩; have n2_ := yS0 HB hb; clear HB hb hr; have HB := n2_; clear n2_))
    go_ret
    exact ⟨rfl, ⟨⟨_, (HB.out.block bt (blk_lt HBT.out)).trans HBT.out⟩, _, (HB.out.block bn (blk_lt HBN.out)).trans HBN.out⟩, Fr.below (by first | exact HB.out | exact eD HB.out | exact eN HB.out _)⟩
   | true =>
    go_wp2_with (first | (go_at_call 79; (with_reducible refine (impl_balance.calls k _ _ V bl true _ ?sa ?sb HBL.out).mono ?_); (case sa => repeat (first | exact (Kd.S_reads' HO.out).2.2 | (with_reducible refine Kd.C_alloc ?_ _) | (with_reducible refine Kd.C_drew ?_) | (with_reducible refine Kd.C_drewN ?_ _))); (case sb => exact (Kd.S_reads' HO.out).2.1); rintro e w5 ⟨v27, rfl, hr, hb⟩; obtain ⟨A27, c27, e27⟩ := Kd.R_slice hr; subst e27; have n2_ := yS0 HB hb; clear HB hb hr; have HB := n2_; clear n2_) | (go_at_call 80; (with_reducible refine (impl_copied.calls _ _ s cp _ ?sa ?sb HCP.out).mono ?_); (case sa => repeat (first | exact (Kd.C_below HS.out HB.out) | (with_reducible refine Kd.C_alloc ?_ _) | (with_reducible refine Kd.C_drew ?_) | (with_reducible refine Kd.C_drewN ?_ _))); (case sb => exact HSC.out); rintro e w6 ⟨v32, rfl, hr, hb⟩; obtain ⟨A32, c32, e32⟩ := Kd.R_slice hr; subst e32; have n2_ := yS0 HB hb; clear HB hb hr; have HB := n2_; clear n2_; have ht := (bC ((HB.out.block bt (blk_lt HBT.out)).trans HBT.out) 0).trans (show _ = some vt from rfl); have hft := bF ((HB.out.block bt (blk_lt HBT.out)).trans HBT.out) 0; have hn := (bC ((HB.out.block bn (blk_lt HBN.out)).trans HBN.out) 0).trans (show _ = some vn from rfl); have hfn := bF ((HB.out.block bn (blk_lt HBN.out)).trans HBN.out) 0; have hne := HNE.out; have hne2 := HNE.out.symm))
    go_ret
    have hT := (HB.out.block bt (blk_lt HBT.out)).trans HBT.out
    have hN := (HB.out.block bn (blk_lt HBN.out)).trans HBN.out
    have hF : Fr (fun x => x = bt ∨ x = bn) W _ := Fr.below HB.out
    refine ⟨rfl, ⟨⟨_, blk_far (blk_put hT 0 _ rfl) HNE.out _⟩, _, blk_put (blk_far hN HNE.out.symm _) 0 _ rfl⟩, (hF.trans (impl_Sample_canPart.fr_set (.inl rfl) 0 _)).trans (impl_Sample_canPart.fr_set (.inr rfl) 0 _)⟩
def impl_Sample_canPart.p (k : Nat) (P : List (List Int)) (L : List Int) (s : List Int) : Bool := (impl_Sample_canPart.one k P L s).getD false
def impl_Sample_canPart.Inv (P : List (List Int)) (L : List Int) (A0 A1 : Option Addr) (c0 c1 : Nat) (w : World) (bs bt bn : Nat) (W : World) : Prop :=
 W.heap[bs]? = some (.cells #[.slice A0 P.length c0, .slice A1 L.length c1] 43 (0, 0)) ∧ (∃ vt : Value, W.heap[bt]? = some (.cells #[vt] 22 (0, 0))) ∧ (∃ vn : Value, W.heap[bn]? = some (.cells #[vn] 22 (0, 0))) ∧ Below w.heap.size w W
theorem impl_Sample_canPart.Inv.below {P : List (List Int)} {L : List Int} {A0 A1 : Option Addr} {c0 c1 : Nat} {w : World} {bs bt bn : Nat} {W W' : World} (h : impl_Sample_canPart.Inv P L A0 A1 c0 c1 w bs bt bn W) (hb : Below W.heap.size W W') : impl_Sample_canPart.Inv P L A0 A1 c0 c1 w bs bt bn W' := by
 obtain ⟨i1, ⟨vt, i2⟩, ⟨vn, i3⟩, i4⟩ := h
 exact ⟨(hb.block bs (blk_lt i1)).trans i1, ⟨vt, (hb.block bt (blk_lt i2)).trans i2⟩, ⟨vn, (hb.block bn (blk_lt i3)).trans i3⟩, below_step i4 hb⟩
theorem impl_Sample_canPart.steps (k : Nat) (P : List (List Int)) (L : List Int) (A0 A1 : Option Addr) (c0 c1 : Nat) (w : World) (bs bt bn : Nat) (hbt : w.heap.size ≤ bt) (hbn : w.heap.size ≤ bn) (hnt : bt ≠ bn)
  (hC0 : Kd.C (Kd.slice 3 (Kd.int .i64)) w A0 P.length P) (hc0 : P.length ≤ c0) (hC1 : Kd.C (Kd.int .i64) w A1 L.length L) (hc1 : L.length ≤ c1) (n r : Nat) (hn : n ≤ 1000) (hr : r ≤ 1000)
  (ho : ∀ s ∈ cmbs n r 0, (impl_Sample_canPart.one k P L s).isSome = true) (w1 : World) (h : impl_Sample_canPart.Inv P L A0 A1 c0 c1 w bs bt bn w1) :
  Calls Try.prog 76 #[.int .i64 (n : Int), .int .i64 (r : Int), .func (.func 77) #[] #[.pointer (some ⟨bs, 0, none⟩), .pointer (some ⟨bt, 0, none⟩), .pointer (some ⟨bn, 0, none⟩)]] w1 fun e W' =>
   e = .returned (.bool ((cmbs n r 0).any (impl_Sample_canPart.p k P L))) ∧ impl_Sample_canPart.Inv P L A0 A1 c0 c1 w bs bt bn W' := by
 have h1 := h
 obtain ⟨i1, ⟨vt, i2⟩, ⟨vn, i3⟩, i4⟩ := h1
 refine (choices_calls n r hr hn 77 Try.f77 Try.func77 (by kernel_rfl) rfl _ (impl_Sample_canPart.p k P L) w1 (fun x => x = bt ∨ x = bn) (fun x hx => by rcases hx with rfl | rfl; exact blk_lt i2; exact blk_lt i3) (fun _ W => impl_Sample_canPart.Inv P L A0 A1 c0 c1 w bs bt bn W) (fun _ W W' h hb => h.below hb) h ?_).mono ?_
 ·
  rintro s hs es W A c hI hft hsc hB
  obtain ⟨j1, ⟨ut, j2⟩, ⟨un, j3⟩, j4⟩ := hI
  obtain ⟨b, hx⟩ := Option.isSome_iff_exists.1 (ho s hs)
  refine (impl_Sample_canPart.visit k P L A0 A1 c0 c1 s A c b bs bt bn ut un W (by rw [cmbs_len n r 0 s hs]; exact hr) j1 j2 j3 hnt (Kd.C_below hC0 j4) hc0 (Kd.C_below hC1 j4) hc1 hft.now hsc hx).mono ?_
  rintro e W' ⟨rfl, ⟨t2, t3⟩, t4⟩
  have n1 : bs ≠ bt := blk_ne j1 j2 (by decide)
  have n2 : bs ≠ bn := blk_ne j1 j3 (by decide)
  exact ⟨by simp [impl_Sample_canPart.p, hx], ⟨t4.blk j1 (fun h => h.elim n1 n2), t2, t3, t4.onto j4 (fun x hx => by rcases hx with rfl | rfl; exact hbt; exact hbn)⟩, t4⟩
 ·
  rintro e W' ⟨rfl, hI, _⟩
  exact ⟨rfl, hI⟩
def impl_Sample_canPart.most (n d : Nat) : Nat := min n (d + 2)
def impl_Sample_canPart.sets (n m : Nat) : List (List Int) := (List.range' 2 (m - 1)).flatMap fun r => cmbs n r 0
def impl_Sample_canPart.f (k : Nat) (P : List (List Int)) (L : List Int) : Option Bool :=
 if P.length = 0 then some true
 else if P.length ≤ 1000 ∧ (rd_L1 P 0).length ≤ 1000 ∧ (∀ s ∈ impl_Sample_canPart.sets P.length (impl_Sample_canPart.most P.length (rd_L1 P 0).length), (impl_Sample_canPart.one k P L s).isSome = true) then some (!(impl_Sample_canPart.sets P.length (impl_Sample_canPart.most P.length (rd_L1 P 0).length)).any (impl_Sample_canPart.p k P L)) else none
set_option maxHeartbeats 16000000 in
theorem impl_Sample_canPart.hard (k : Nat) (A0 : Option Addr) (c0 : Nat) (P : List (List Int)) (A1 : Option Addr) (c1 : Nat) (L : List Int) (r : Bool) (w : World) (hr0 : Kd.C (Kd.slice 3 (Kd.int .i64)) w A0 P.length P) (hc0 : P.length ≤ c0) (hr1 : Kd.C (Kd.int .i64) w A1 L.length L) (hc1 : L.length ≤ c1) (h : impl_Sample_canPart.f k P L = some r) :
  Calls Try.prog 57 #[.agg #[.slice A0 P.length c0, .slice A1 L.length c1]] w fun e w' => (∃ v1 v2 : Value, e = .returned (.tuple #[v1, v2, .bool (!r)])) ∧ Below w.heap.size w w' := by
 have hu := Try.underlying43
 unfold impl_Sample_canPart.f at h
 by_cases hz : P.length = 0
 ·
  rw [if_pos hz] at h
  obtain rfl := Option.some.inj h
  have z0 : ((P.length : Int) == 0) = true := by rw [hz]; rfl
  have z1 : (P.length == 0) = true := by rw [hz]; rfl
  have HB := aM (Below.refl w.heap.size w)
  clear h hr0 hc0 hr1 hc1
  go_enter Try.func57, Try.ntmps57
  go_wp2_with (first | (refine yB 1 #[.slice A0 P.length c0, .slice A1 L.length c1] 43 ?_; intro bs hg w3 hbox hb; replace HB := aM (below_step HB.out hb); have hcz0 : w3.cell? ⟨bs, 0, none⟩ = some (.slice A0 P.length c0) := (bC hbox 0).trans rfl; have hcz1 : w3.cell? ⟨bs, 1, none⟩ = some (.slice A1 L.length c1) := (bC hbox 1).trans rfl; clear hbox hb hg))
  ((try simp only [Exit.inBlock, Exit.then]); refine bodyPost_ret (results_tmp3 rfl _ _ _) rfl ?_)
  exact ⟨⟨_, _, rfl⟩, by first | exact HB.out | exact eD HB.out⟩
 ·
  rw [if_neg hz] at h
  by_cases c : P.length ≤ 1000 ∧ (rd_L1 P 0).length ≤ 1000 ∧ (∀ s ∈ impl_Sample_canPart.sets P.length (impl_Sample_canPart.most P.length (rd_L1 P 0).length), (impl_Sample_canPart.one k P L s).isSome = true)
  ·
   rw [if_pos c] at h
   obtain ⟨hn, hd, ho⟩ := c
   have HRES := aM (Option.some.inj h)
   obtain ⟨ad, Ar, cr, e, hrw, hrl, hrc⟩ := at_L1 hr0 0 (Int.le_refl 0) (show (0 : Int) < (P.length : Int) by omega)
   cases e
   have e0 : ad.add (0 : Int).toNat = ad := by simp [Addr.add]
   rw [e0] at hrw
   have HRW0 := aM hrw
   have HC0 := aM hr0
   have HK0 := aM hc0
   have HC1 := aM hr1
   have HK1 := aM hc1
   have HN := aM (show 1 ≤ P.length ∧ P.length ≤ 1000 from ⟨by omega, hn⟩)
   have HD := aM hd
   have HO := aM ho
   have z0 : ((P.length : Int) == 0) = false := beq_eq_false_iff_ne.mpr (by omega)
   have z1 : (P.length == 0) = false := beq_eq_false_iff_ne.mpr hz
   have HB := aM (Below.refl w.heap.size w)
   clear h hrw hrl hrc e0 hr0 hc0 hr1 hc1 hn hd ho hz
   generalize hM : rd_L1 P 0 = row0 at HRW0 HD HO HRES
   go_enter Try.func57, Try.ntmps57
   go_wp2_with (first | (refine yB 1 #[.slice (some ad) P.length c0, .slice A1 L.length c1] 43 ?_; intro bs hg w3 hbox hb; replace HB := aM (below_step HB.out hb); have HBS := aM hbox; have hcz0 : w3.cell? ⟨bs, 0, none⟩ = some (.slice (some ad) P.length c0) := (bC hbox 0).trans rfl; have hcz1 : w3.cell? ⟨bs, 1, none⟩ = some (.slice A1 L.length c1) := (bC hbox 1).trans rfl; clear hbox hb hg))
   have HI := aM (show impl_Sample_canPart.Inv P L (some ad) A1 c0 c1 w bs w3.heap.size (w3.heap.size + 1) ((w3.alloc (.cells #[.slice none 0 0] 22)).alloc (.cells #[.slice none 0 0] 22)) from ⟨bA (bA HBS.out _) _, ⟨_, bA (blk_new w3 _) _⟩, ⟨_, by simpa using blk_new (w3.alloc _) _⟩, eA (eA HB.out _) _⟩)
   have HSZ := aM HB.out.size
   generalize (w3.alloc (.cells #[.slice none 0 0] 22)).alloc (.cells #[.slice none 0 0] 22) = w5 at HI ⊢
   obtain ⟨bt, hbt⟩ : ∃ bt, bt = w3.heap.size := ⟨_, rfl⟩
   obtain ⟨bn, hbn⟩ : ∃ bn, bn = w3.heap.size + 1 := ⟨_, rfl⟩
   rw [← hbn, ← hbt] at HI ⊢
   have HBT := aM (show w.heap.size ≤ bt ∧ w.heap.size ≤ bn ∧ bt ≠ bn from by have := HSZ.out; omega)
   obtain ⟨M, hMM⟩ : ∃ M, M = impl_Sample_canPart.most P.length row0.length := ⟨_, rfl⟩
   rw [← hMM] at HO HRES
   have HMM := aM (show M ≤ 1000 ∧ M = min P.length (row0.length + 2) from by have := HN.out; unfold impl_Sample_canPart.most at hMM; omega)
   clear hbt hbn HB HSZ HBS hcz0 hcz1 hMM
   go_loopw [8] (fun v8 w' => ∃ q : Nat, v8 = .int .i64 (q : Int) ∧ Aside0 (2 ≤ q ∧ (q ≤ M + 1 ∨ q = 2)) ∧ Aside0 (((List.range' 2 (q - 2)).flatMap fun r => cmbs P.length r 0).any (impl_Sample_canPart.p k P L) = false) ∧ Aside0 (impl_Sample_canPart.Inv P L (some ad) A1 c0 c1 w bs bt bn w')) (fun v8 _ => 2000 - (intOf v8).toNat)
   case atStart => exact ⟨2, rfl, ⟨Nat.le_refl _, .inr rfl⟩, ⟨rfl⟩, HI⟩
   case round =>
    clear HI
    obtain ⟨q, rfl, HQ, HF, HI⟩ := hrel
    obtain ⟨i1, ⟨vt, i2⟩, ⟨vn, i3⟩, i4⟩ := HI.out
    have hcz0 := (bC i1 0).trans (show _ = some (.slice (some ad) P.length c0) from rfl)
    have hrw := (i4.cell (World.block_lt_of_cell? w _ HRW0.out)).trans HRW0.out
    have hd1 : decide ((0 : Int) < (P.length : Int)) = true := decide_eq_true (by have := HN.out; omega)
    have hd2 : decide (0 < P.length) = true := decide_eq_true (by have := HN.out; omega)
    have hd3 : (0 < P.length) = True := eq_true (by have := HN.out; omega)
    have hw2 : wrap64 ((row0.length : Int) + 2) = (row0.length : Int) + 2 := by have := HD.out; unfold wrap64; omega
    clear i1 i2 i3 i4
    by_cases cm : (row0.length : Int) + 2 < (P.length : Int)
    ·
     have hcm : ((row0.length : Int) + 2 < (P.length : Int)) = True := eq_true cm
     have hM0 : M = row0.length + 2 := by have := HMM.out; omega
     have HM0 := aM hM0
     by_cases cq : q ≤ M
     ·
      have hq0 : decide ((q : Int) ≤ (row0.length : Int) + 2) = true := decide_eq_true (by omega)
      have HCQ := aM cq
      have hqb : q ≤ 1000 := by have := HMM.out; omega
      clear cq hM0 cm
      obtain ⟨bb, hbb⟩ : ∃ bb, (cmbs P.length q 0).any (impl_Sample_canPart.p k P L) = bb := ⟨_, rfl⟩
      have HBB := aM hbb
      clear hbb
      cases bb with
      | true =>
       go_wp2_with (first | (go_at_call 76; (with_reducible refine (impl_Sample_canPart.steps k P L (some ad) A1 c0 c1 w bs bt bn HBT.out.1 HBT.out.2.1 HBT.out.2.2 HC0.out HK0.out HC1.out HK1.out P.length q ?sa ?sb ?sc _ ?sd).mono ?_); (case sa => exact HN.out.2); (case sb => have := HMM.out; have := HCQ.out; omega); (case sc => exact (fun s hs => HO.out s (List.mem_flatMap.2 ⟨q, List.mem_range'_1.2 (by have := HCQ.out; have := HQ.out; omega), hs⟩))); (case sd => first | exact HI.out | exact HI.out.below (eD (Below.refl _ _)) | exact HI.out.below (eN (Below.refl _ _) _)); rintro e w9 ⟨he, hI⟩; rw [HBB.out] at he; subst he; have HI := aM hI))
       obtain ⟨i1, ⟨vt, i2⟩, ⟨vn, i3⟩, i4⟩ := HI.out
       have ht := (bC i2 0).trans (show _ = some vt from rfl)
       have hn := (bC i3 0).trans (show _ = some vn from rfl)
       clear i1 i2 i3 i4
       refine start_ (n := 5) (S := fun w' => w'.cell? ⟨bt, 0, none⟩ = some vt ∧ w'.cell? ⟨bn, 0, none⟩ = some vn) (ds := []) (bm 5 0) (by kernel_rfl) rfl rfl ⟨ht, hn⟩ (fun hHeld => ?_)
       refine take_ (i := 0) (N := some 32) (v := ?_) (a' := ?_) (bm 5 1) rfl rfl (by kernel_rfl) (fun _ _ _ h => h) (Or.inl ⟨by rfl, ?_⟩) hHeld ?_ ?_
       rotate_left
       ·
        rintro w' ⟨s0, s1⟩
        first | (go_simp; with_reducible rfl) | (simp only [add_plain] at s0 s1; go_simp; with_reducible rfl)
       rotate_left
       ·
        simp only [Act.put, sA, sZ, sU, i64_w, i32_w]
        rfl
       refine pure_ (i := 2) (N := some 2) (v := ?_) (a' := ?_) (bm 5 5) rfl rfl (by kernel_rfl) (fun _ _ _ h => h) (Or.inl ⟨by rfl, ?_⟩) ?_ ?_
       rotate_left
       ·
        intro w'
        go_simp
        with_reducible rfl
       rotate_left
       ·
        simp only [Act.put, sA, sZ, sU, i64_w, i32_w]
        rfl
       refine take_ (i := 1) (N := some 33) (v := ?_) (a' := ?_) (bm 5 7) rfl rfl (by kernel_rfl) (fun _ _ _ h => h) (Or.inl ⟨by rfl, ?_⟩) hHeld ?_ ?_
       rotate_left
       ·
        rintro w' ⟨s0, s1⟩
        first | (go_simp; with_reducible rfl) | (simp only [add_plain] at s0 s1; go_simp; with_reducible rfl)
       rotate_left
       ·
        simp only [Act.put, sA, sZ, sU, i64_w, i32_w]
        rfl
       refine pure_ (i := 3) (N := some 3) (v := ?_) (a' := ?_) (bm 5 15) rfl rfl (by kernel_rfl) (fun _ _ _ h => h) (Or.inl ⟨by rfl, ?_⟩) ?_ ?_
       rotate_left
       ·
        intro w'
        go_simp
        with_reducible rfl
       rotate_left
       ·
        simp only [Act.put, sA, sZ, sU, i64_w, i32_w]
        rfl
       refine pure_ (i := 4) (N := some 4) (v := ?_) (a' := ?_) (bm 5 31) rfl rfl (by kernel_rfl) (fun _ _ _ h => h) (Or.inl ⟨by rfl, ?_⟩) ?_ ?_
       rotate_left
       ·
        intro w'
        go_simp
        with_reducible rfl
       rotate_left
       ·
        simp only [Act.put, sA, sZ, sU, i64_w, i32_w]
        rfl
       refine done_ (by kernel_rfl) ?_
       go_wp2
       go_ret3
       have hres : (!r) = true := by rw [← HRES.out, Bool.not_not]; exact List.any_eq_true.2 (by obtain ⟨s, hs, hp⟩ := List.any_eq_true.1 HBB.out; exact ⟨s, List.mem_flatMap.2 ⟨q, (show q ∈ List.range' 2 (M - 1) from List.mem_range'_1.2 (by have := HCQ.out; have := HQ.out; omega)), hs⟩, hp⟩)
       exact ⟨⟨_, _, by rw [hres]; rfl⟩, by first | exact HI.out.2.2.2 | exact eD HI.out.2.2.2 | exact eN HI.out.2.2.2 _⟩
      | false =>
       go_wp2_with (first | (go_at_call 76; (with_reducible refine (impl_Sample_canPart.steps k P L (some ad) A1 c0 c1 w bs bt bn HBT.out.1 HBT.out.2.1 HBT.out.2.2 HC0.out HK0.out HC1.out HK1.out P.length q ?sa ?sb ?sc _ ?sd).mono ?_); (case sa => exact HN.out.2); (case sb => have := HMM.out; have := HCQ.out; omega); (case sc => exact (fun s hs => HO.out s (List.mem_flatMap.2 ⟨q, List.mem_range'_1.2 (by have := HCQ.out; have := HQ.out; omega), hs⟩))); (case sd => first | exact HI.out | exact HI.out.below (eD (Below.refl _ _)) | exact HI.out.below (eN (Below.refl _ _) _)); rintro e w9 ⟨he, hI⟩; rw [HBB.out] at he; subst he; have HI := aM hI))
       go_roundw
       case rel => exact ⟨q + 1, by go_num, ⟨by have := HQ.out; have := HCQ.out; omega⟩, ⟨by have h1 := HF.out; have h2 := HBB.out; rw [show q + 1 - 2 = (q - 2) + 1 by have := HQ.out; omega, List.range'_1_concat, List.flatMap_append, List.any_append, h1, Bool.false_or, show 2 + (q - 2) = q by have := HQ.out; omega]; simpa using h2⟩, by first | exact HI | exact ⟨HI.out.below (eD (Below.refl _ _))⟩ | exact ⟨HI.out.below (eN (Below.refl _ _) _)⟩⟩
       case measure => have := HCQ.out; have := HMM.out; simp [intOf]; omega
     ·
      have hq0 : decide ((q : Int) ≤ (row0.length : Int) + 2) = false := decide_eq_false (by omega)
      have HCQ := aM cq
      clear cq hM0 cm
      go_wp2
      go_ret3
      have hres : (!r) = false := by rw [← HRES.out, Bool.not_not, impl_Sample_canPart.sets, show M - 1 = q - 2 by have := HQ.out; have := HCQ.out; omega]; exact HF.out
      exact ⟨⟨_, _, by rw [hres]; rfl⟩, by first | exact HI.out.2.2.2 | exact eD HI.out.2.2.2 | exact eN HI.out.2.2.2 _⟩
    ·
     have hcm : ((row0.length : Int) + 2 < (P.length : Int)) = False := eq_false cm
     have hM0 : M = P.length := by have := HMM.out; omega
     have HM0 := aM hM0
     by_cases cq : q ≤ M
     ·
      have hq0 : decide ((q : Int) ≤ (P.length : Int)) = true := decide_eq_true (by omega)
      have hq1 : decide (q ≤ P.length) = true := decide_eq_true (by omega)
      have HCQ := aM cq
      have hqb : q ≤ 1000 := by have := HMM.out; omega
      clear cq hM0 cm
      obtain ⟨bb, hbb⟩ : ∃ bb, (cmbs P.length q 0).any (impl_Sample_canPart.p k P L) = bb := ⟨_, rfl⟩
      have HBB := aM hbb
      clear hbb
      cases bb with
      | true =>
       go_wp2_with (first | (go_at_call 76; (with_reducible refine (impl_Sample_canPart.steps k P L (some ad) A1 c0 c1 w bs bt bn HBT.out.1 HBT.out.2.1 HBT.out.2.2 HC0.out HK0.out HC1.out HK1.out P.length q ?sa ?sb ?sc _ ?sd).mono ?_); (case sa => exact HN.out.2); (case sb => have := HMM.out; have := HCQ.out; omega); (case sc => exact (fun s hs => HO.out s (List.mem_flatMap.2 ⟨q, List.mem_range'_1.2 (by have := HCQ.out; have := HQ.out; omega), hs⟩))); (case sd => first | exact HI.out | exact HI.out.below (eD (Below.refl _ _)) | exact HI.out.below (eN (Below.refl _ _) _)); rintro e w9 ⟨he, hI⟩; rw [HBB.out] at he; subst he; have HI := aM hI))
       obtain ⟨i1, ⟨vt, i2⟩, ⟨vn, i3⟩, i4⟩ := HI.out
       have ht := (bC i2 0).trans (show _ = some vt from rfl)
       have hn := (bC i3 0).trans (show _ = some vn from rfl)
       clear i1 i2 i3 i4
       refine start_ (n := 5) (S := fun w' => w'.cell? ⟨bt, 0, none⟩ = some vt ∧ w'.cell? ⟨bn, 0, none⟩ = some vn) (ds := []) (bm 5 0) (by kernel_rfl) rfl rfl ⟨ht, hn⟩ (fun hHeld => ?_)
       refine take_ (i := 0) (N := some 32) (v := ?_) (a' := ?_) (bm 5 1) rfl rfl (by kernel_rfl) (fun _ _ _ h => h) (Or.inl ⟨by rfl, ?_⟩) hHeld ?_ ?_
       rotate_left
       ·
        rintro w' ⟨s0, s1⟩
        first | (go_simp; with_reducible rfl) | (simp only [add_plain] at s0 s1; go_simp; with_reducible rfl)
       rotate_left
       ·
        simp only [Act.put, sA, sZ, sU, i64_w, i32_w]
        rfl
       refine pure_ (i := 2) (N := some 2) (v := ?_) (a' := ?_) (bm 5 5) rfl rfl (by kernel_rfl) (fun _ _ _ h => h) (Or.inl ⟨by rfl, ?_⟩) ?_ ?_
       rotate_left
       ·
        intro w'
        go_simp
        with_reducible rfl
       rotate_left
       ·
        simp only [Act.put, sA, sZ, sU, i64_w, i32_w]
        rfl
       refine take_ (i := 1) (N := some 33) (v := ?_) (a' := ?_) (bm 5 7) rfl rfl (by kernel_rfl) (fun _ _ _ h => h) (Or.inl ⟨by rfl, ?_⟩) hHeld ?_ ?_
       rotate_left
       ·
        rintro w' ⟨s0, s1⟩
        first | (go_simp; with_reducible rfl) | (simp only [add_plain] at s0 s1; go_simp; with_reducible rfl)
       rotate_left
       ·
        simp only [Act.put, sA, sZ, sU, i64_w, i32_w]
        rfl
       refine pure_ (i := 3) (N := some 3) (v := ?_) (a' := ?_) (bm 5 15) rfl rfl (by kernel_rfl) (fun _ _ _ h => h) (Or.inl ⟨by rfl, ?_⟩) ?_ ?_
       rotate_left
       ·
        intro w'
        go_simp
        with_reducible rfl
       rotate_left
       ·
        simp only [Act.put, sA, sZ, sU, i64_w, i32_w]
        rfl
       refine pure_ (i := 4) (N := some 4) (v := ?_) (a' := ?_) (bm 5 31) rfl rfl (by kernel_rfl) (fun _ _ _ h => h) (Or.inl ⟨by rfl, ?_⟩) ?_ ?_
       rotate_left
       ·
        intro w'
        go_simp
        with_reducible rfl
       rotate_left
       ·
        simp only [Act.put, sA, sZ, sU, i64_w, i32_w]
        rfl
       refine done_ (by kernel_rfl) ?_
       go_wp2
       go_ret3
       have hres : (!r) = true := by rw [← HRES.out, Bool.not_not]; exact List.any_eq_true.2 (by obtain ⟨s, hs, hp⟩ := List.any_eq_true.1 HBB.out; exact ⟨s, List.mem_flatMap.2 ⟨q, (show q ∈ List.range' 2 (M - 1) from List.mem_range'_1.2 (by have := HCQ.out; have := HQ.out; omega)), hs⟩, hp⟩)
       exact ⟨⟨_, _, by rw [hres]; rfl⟩, by first | exact HI.out.2.2.2 | exact eD HI.out.2.2.2 | exact eN HI.out.2.2.2 _⟩
      | false =>
       go_wp2_with (first | (go_at_call 76; (with_reducible refine (impl_Sample_canPart.steps k P L (some ad) A1 c0 c1 w bs bt bn HBT.out.1 HBT.out.2.1 HBT.out.2.2 HC0.out HK0.out HC1.out HK1.out P.length q ?sa ?sb ?sc _ ?sd).mono ?_); (case sa => exact HN.out.2); (case sb => have := HMM.out; have := HCQ.out; omega); (case sc => exact (fun s hs => HO.out s (List.mem_flatMap.2 ⟨q, List.mem_range'_1.2 (by have := HCQ.out; have := HQ.out; omega), hs⟩))); (case sd => first | exact HI.out | exact HI.out.below (eD (Below.refl _ _)) | exact HI.out.below (eN (Below.refl _ _) _)); rintro e w9 ⟨he, hI⟩; rw [HBB.out] at he; subst he; have HI := aM hI))
       go_roundw
       case rel => exact ⟨q + 1, by go_num, ⟨by have := HQ.out; have := HCQ.out; omega⟩, ⟨by have h1 := HF.out; have h2 := HBB.out; rw [show q + 1 - 2 = (q - 2) + 1 by have := HQ.out; omega, List.range'_1_concat, List.flatMap_append, List.any_append, h1, Bool.false_or, show 2 + (q - 2) = q by have := HQ.out; omega]; simpa using h2⟩, by first | exact HI | exact ⟨HI.out.below (eD (Below.refl _ _))⟩ | exact ⟨HI.out.below (eN (Below.refl _ _) _)⟩⟩
       case measure => have := HCQ.out; have := HMM.out; simp [intOf]; omega
     ·
      have hq0 : decide ((q : Int) ≤ (P.length : Int)) = false := decide_eq_false (by omega)
      have hq1 : decide (q ≤ P.length) = false := decide_eq_false (by omega)
      have HCQ := aM cq
      clear cq hM0 cm
      go_wp2
      go_ret3
      have hres : (!r) = false := by rw [← HRES.out, Bool.not_not, impl_Sample_canPart.sets, show M - 1 = q - 2 by have := HQ.out; have := HCQ.out; omega]; exact HF.out
      exact ⟨⟨_, _, by rw [hres]; rfl⟩, by first | exact HI.out.2.2.2 | exact eD HI.out.2.2.2 | exact eN HI.out.2.2.2 _⟩
  ·
   rw [if_neg c] at h; cases h
set_option maxHeartbeats 16000000 in
theorem impl_Sample_canPart.calls (k : Nat) (A0_0 : Option Addr) (c0_0 : Nat) (l0_0 : List (List Int)) (A0_1 : Option Addr) (c0_1 : Nat) (l0_1 : List Int) (r : Bool) (w : World) (hr0_0 : Kd.C (Kd.slice 3 (Kd.int .i64)) w A0_0 l0_0.length l0_0) (hc0_0 : l0_0.length ≤ c0_0) (hr0_1 : Kd.C (Kd.int .i64) w A0_1 l0_1.length l0_1) (hc0_1 : l0_1.length ≤ c0_1) (h : impl_Sample_canPart.f k l0_0 l0_1 = some r) :
  Calls Try.prog 30 #[.agg #[.slice A0_0 l0_0.length c0_0, .slice A0_1 l0_1.length c0_1]] w fun e w' => e = .returned (.bool r) ∧ Below w.heap.size w w' := by
 have hu := Try.underlying43
 have HR0 := aM hr0_0
 have HC0 := aM hc0_0
 have HR1 := aM hr0_1
 have HC1 := aM hc0_1
 have H := aM h
 clear hr0_0 hc0_0 hr0_1 hc0_1 h
 have HB := aM (Below.refl w.heap.size w)
 go_enter Try.func30, Try.ntmps30
 go_wp2_with (first | (refine yB 1 #[.slice A0_0 l0_0.length c0_0, .slice A0_1 l0_1.length c0_1] 43 ?_; intro bs hg w3 hbox hb; replace HB := aM (below_step HB.out hb); have hcz0 : w3.cell? ⟨bs, 0, none⟩ = some (.slice A0_0 l0_0.length c0_0) := (bC hbox 0).trans rfl; have hcz1 : w3.cell? ⟨bs, 1, none⟩ = some (.slice A0_1 l0_1.length c0_1) := (bC hbox 1).trans rfl; clear hbox hb hg) | (go_at_call 57; (with_reducible refine (impl_Sample_canPart.hard k _ _ l0_0 _ _ l0_1 r _ ?sa ?sb ?sc ?sd H.out).mono ?_); (case sa => repeat (first | exact (Kd.C_below HR0.out HB.out) | (with_reducible refine Kd.C_alloc ?_ _) | (with_reducible refine Kd.C_drew ?_) | (with_reducible refine Kd.C_drewN ?_ _))); (case sb => exact HC0.out); (case sc => repeat (first | exact (Kd.C_below HR1.out HB.out) | (with_reducible refine Kd.C_alloc ?_ _) | (with_reducible refine Kd.C_drew ?_) | (with_reducible refine Kd.C_drewN ?_ _))); (case sd => exact HC1.out); rintro e w5 ⟨⟨v1, v2, rfl⟩, hb⟩; have n2_ := yS0 HB hb; clear HB hb; have HB := n2_; clear n2_))
 go_ret
 exact ⟨by first | rfl | simp, by first | exact HB.out | exact eD HB.out | exact eN HB.out _⟩
theorem impl_PlaneClass.visit (k : Nat) (P : List (List Int)) (A0 : Option Addr) (c0 : Nat) (bp : Nat) (s : List Int) (A : Option Addr) (c : Nat) (b : Bool) (W : World) (hbp : W.heap[bp]? = some (.cells #[.slice A0 P.length c0] 32 (0, 0))) (hC0 : Kd.C (Kd.slice 3 (Kd.int .i64)) W A0 P.length P) (hc0 : P.length ≤ c0) (hs : Kd.C (Kd.int .i64) W A s.length s) (hsc : s.length ≤ c) (h : impl_Sample_canPart.f k P s = some b) :
  Calls Try.prog 46 #[.slice A s.length c, .pointer (some ⟨bp, 0, none⟩)] W fun e W' => e = .returned (.bool b) ∧ Below W.heap.size W W' := by
 have hu := Try.underlying43
 have hz : W.cell? ⟨bp, 0, none⟩ = some (.slice A0 P.length c0) := (bC hbp 0).trans rfl
 have HC0 := aM hC0
 have HK0 := aM hc0
 have HS := aM hs
 have HSC := aM hsc
 have H := aM h
 have HB := aM (Below.refl W.heap.size W)
 clear hbp hC0 hc0 hs hsc h
 go_enter Try.func46, Try.ntmps46
 go_wp2_with (first | (go_at_call 30; (with_reducible refine (impl_Sample_canPart.calls k _ _ P _ _ s b _ ?sa ?sb ?sc ?sd H.out).mono ?_); (case sa => repeat (first | exact (Kd.C_below HC0.out HB.out) | (with_reducible refine Kd.C_alloc ?_ _) | (with_reducible refine Kd.C_drew ?_) | (with_reducible refine Kd.C_drewN ?_ _))); (case sb => exact HK0.out); (case sc => repeat (first | exact (Kd.C_below HS.out HB.out) | (with_reducible refine Kd.C_alloc ?_ _) | (with_reducible refine Kd.C_drew ?_) | (with_reducible refine Kd.C_drewN ?_ _))); (case sd => exact HSC.out); rintro e w5 ⟨rfl, hb⟩; have n2_ := yS0 HB hb; clear HB hb; have HB := n2_; clear n2_))
 go_ret
 exact ⟨rfl, by first | exact HB.out | exact eD HB.out | exact eN HB.out _⟩
def impl_PlaneClass.f (k : Nat) (P : List (List Int)) : Option (List (List Int) × Bool) := (impl_areFew.f k P).bind fun b =>
 if b = true then (if P.length ≤ 8 ∧ ∀ s ∈ List.range (2 ^ P.length), (impl_Sample_canPart.f k P (labelsOf P.length s)).isSome = true then some (((List.range (2 ^ P.length)).map (labelsOf P.length)).filter (fun r => (impl_Sample_canPart.f k P r).getD false), true) else none) else some ([], false)
theorem impl_PlaneClass.calls (k : Nat) (A0 : Option Addr) (c0 : Nat) (l0 : List (List Int)) (r1 : List (List Int)) (r2 : Bool) (w : World) (hr0 : Kd.C (Kd.slice 3 (Kd.int .i64)) w A0 l0.length l0) (hc0 : l0.length ≤ c0) (h : impl_PlaneClass.f k l0 = some (r1, r2)) :
  Calls Try.prog 18 #[.slice A0 l0.length c0] w fun e w' => ∃ v0_ : Value, e = .returned (.tuple #[v0_, .bool r2]) ∧ Kd.S (Kd.slice 3 (Kd.int .i64)) 22 w' w.heap.size (fun _ => True) v0_ r1 ∧ Below w.heap.size w w' := by
 unfold impl_PlaneClass.f at h
 obtain ⟨b, hb, h⟩ := oB.mp h
 have HW := aM hb
 have HR0 := aM hr0
 have HC0 := aM hc0
 have HB := aM (Below.refl w.heap.size w)
 clear hb hr0 hc0
 cases b with
 | false =>
  rw [if_neg (by simp)] at h
  cases h
  go_enter Try.func18, Try.ntmps18
  go_wp2_with (first | (refine yB 1 #[.slice A0 l0.length c0] 32 ?_; intro bp hg w3 hbox hb; replace HB := aM (below_step HB.out hb); have hcz0 : w3.cell? ⟨bp, 0, none⟩ = some (.slice A0 l0.length c0) := (bC hbox 0).trans rfl; clear hbox hb hg) | (go_at_call 44; (with_reducible refine (impl_areFew.calls k _ _ l0 false _ ?sa ?sb HW.out).mono ?_); (case sa => repeat (first | exact (Kd.C_below HR0.out HB.out) | (with_reducible refine Kd.C_alloc ?_ _) | (with_reducible refine Kd.C_drew ?_) | (with_reducible refine Kd.C_drewN ?_ _))); (case sb => exact HC0.out); rintro e w5 ⟨rfl, hb⟩; have n2_ := yS0 HB hb; clear HB hb; have HB := n2_; clear n2_))
  go_ret2
  exact ⟨_, rfl, Kd.S_nil _ _ _ _ _, by first | exact HB.out | exact eD HB.out | exact eN HB.out _⟩
 | true =>
  rw [if_pos rfl] at h
  by_cases c : l0.length ≤ 8 ∧ ∀ s ∈ List.range (2 ^ l0.length), (impl_Sample_canPart.f k l0 (labelsOf l0.length s)).isSome = true
  ·
   rw [if_pos c] at h
   cases h
   obtain ⟨hm8, hc2⟩ := c
   have HC := aM hc2
   clear hc2
   have hf : ∀ (w1 : World) (bp : Nat), w1.heap[bp]? = some (.cells #[.slice A0 l0.length c0] 32 (0, 0)) → Below w.heap.size w w1 → ∀ s : Nat, s < 2 ^ l0.length → ∀ W A c, Below w1.heap.size w1 W → Kd.C (Kd.int .i64) W A (labelsOf l0.length s).length (labelsOf l0.length s) → (labelsOf l0.length s).length ≤ c → Calls Try.prog 46 (#[.slice A (labelsOf l0.length s).length c] ++ #[.pointer (some ⟨bp, 0, none⟩)]) W fun e W' => e = .returned (.bool ((fun r => (impl_Sample_canPart.f k l0 r).getD false) (labelsOf l0.length s))) ∧ Below W.heap.size W W' := by
    intro w1 bp hbp hbw s hs W A c hbW hC hc
    have h1 := HC.out s (List.mem_range.2 hs)
    obtain ⟨b, hb⟩ := Option.isSome_iff_exists.1 h1
    refine (impl_PlaneClass.visit k l0 A0 c0 bp _ A c b W ((hbW.block bp (blk_lt hbp)).trans hbp) (Kd.C_below HR0.out (below_step hbw hbW)) HC0.out hC hc hb).mono ?_
    rintro e W' ⟨rfl, hbb⟩
    exact ⟨by show _ = Ending.returned (.bool ((impl_Sample_canPart.f k l0 (labelsOf l0.length s)).getD false)); rw [hb]; rfl, hbb⟩
   have HF := aM hf
   clear hf
   go_enter Try.func18, Try.ntmps18
   go_wp2_with (first | (refine yB 1 #[.slice A0 l0.length c0] 32 ?_; intro bp hg w3 hbox hb; replace HB := aM (below_step HB.out hb); have hcz0 : w3.cell? ⟨bp, 0, none⟩ = some (.slice A0 l0.length c0) := (bC hbox 0).trans rfl; have HBX := aM hbox; clear hbox hb hg) | (go_at_call 44; (with_reducible refine (impl_areFew.calls k _ _ l0 true _ ?sa ?sb HW.out).mono ?_); (case sa => repeat (first | exact (Kd.C_below HR0.out HB.out) | (with_reducible refine Kd.C_alloc ?_ _) | (with_reducible refine Kd.C_drew ?_) | (with_reducible refine Kd.C_drewN ?_ _))); (case sb => exact HC0.out); rintro e w5 ⟨rfl, hb⟩; have n2_ := yS0 HB hb; have n3_ := aM ((hb.block bp (blk_lt (by repeat (first | exact HBX.out | (with_reducible first | apply bN | apply bD | apply bA))))).trans (by repeat (first | exact HBX.out | (with_reducible first | apply bN | apply bD | apply bA)))); clear HB HBX hb; have HB := n2_; have HBX := n3_; clear n2_ n3_; have hcz1 := yC0 HBX) | (go_at_call 45; (with_reducible refine (labelings_calls l0.length hm8 46 Try.f46 Try.func46 (by kernel_rfl) rfl #[.pointer (some ⟨bp, 0, none⟩)] (fun r => (impl_Sample_canPart.f k l0 r).getD false) _ (HF.out _ bp (by repeat (first | exact HBX.out | (with_reducible first | apply bN | apply bD | apply bA))) (xH HB.out))).mono ?_); rintro e w6 ⟨v, rfl, hS, hb⟩; have HS := aM (Kd.S_lower hS (below_size (xH HB.out))); have n2_ := yS0 HB hb; clear HB hb hS; have HB := n2_; clear n2_))
   go_ret2
   exact ⟨_, rfl, HS.out, by first | exact HB.out | exact eD HB.out | exact eN HB.out _⟩
  ·
   rw [if_neg c] at h; cases h
def laws_eqIntS.l0 : Nat → List Int → List Int → Int → Option (Bool)
 | 0, _, _, _ => none
 | k + 1, x0, x1, x5 => if x5 < (x0.length : Int) then (if 0 ≤ x5 then (if x5 < (x1.length : Int) then (if (rd x0 x5) = (rd x1 x5) then (laws_eqIntS.l0 k x0 x1 (wrap64 (x5 + 1))) else (some false)) else (none)) else (none)) else (some true)
def laws_eqIntS.f (k : Nat) (l0 : List Int) (l1 : List Int) : Option (Bool) := if (l0.length : Int) = (l1.length : Int) then (laws_eqIntS.l0 k l0 l1 0) else (some false)
theorem laws_eqIntS.calls (k : Nat) (A0 : Option Addr) (c0 : Nat) (l0 : List Int) (A1 : Option Addr) (c1 : Nat) (l1 : List Int) (r : Bool) (w : World) (hr0 : Kd.C (Kd.int .i64) w A0 l0.length l0) (hc0 : l0.length ≤ c0) (hr1 : Kd.C (Kd.int .i64) w A1 l1.length l1) (hc1 : l1.length ≤ c1) (h : laws_eqIntS.f k l0 l1 = some r) :
  Calls Try.prog 10 #[.slice A0 l0.length c0, .slice A1 l1.length c1] w fun e w' => e = .returned (.bool r) ∧ Drawn0 w w' := by
 have HR0 := aM hr0
 have HC0 := aM hc0
 clear hr0 hc0
 have HR1 := aM hr1
 have HC1 := aM hc1
 clear hr1 hc1
 have H : (if (l0.length : Int) = (l1.length : Int) then (laws_eqIntS.l0 k l0 l1 0) else (some false)) = some r := h
 clear h
 by_cases c3 : (l0.length : Int) = (l1.length : Int)
 rotate_left
 ·
  rw [if_neg c3] at H
  have c3b0 : ((l0.length : Int) == (l1.length : Int)) = false := beq_eq_false_iff_ne.mpr c3
  have c3b1 : ((l0.length : Int) != (l1.length : Int)) = true := bne_iff_ne.mpr c3
  have c3b2 : (l0.length == l1.length) = false := by first | simpa using c3 | (simp at c3 ⊢; omega)
  obtain rfl := Option.some.inj H
  go_enter Try.func10, Try.ntmps10
  go_wp2
  repeat (go_quiet (fail); try go_wp2)
  go_ret
  exact ⟨by first | rfl | (simp; done) | (simp [*]; done), by repeat (first | exact Drawn0.refl _ | apply Drawn0.step)⟩
 rw [if_pos c3] at H
 have c3b0 : ((l0.length : Int) == (l1.length : Int)) = true := beq_iff_eq.mpr c3
 have c3b1 : ((l0.length : Int) != (l1.length : Int)) = false := bne_eq_false_iff_eq.mpr c3
 have c3b2 : (l0.length == l1.length) = true := by first | simpa using c3 | (simp at c3 ⊢; omega)
 clear c3
 have H' := aM H
 clear H
 go_enter Try.func10, Try.ntmps10
 go_wp2
 repeat (go_quiet (fail); try go_wp2)
 go_loopg [5] k (fun kq v5 w' => ∃ (x5_1 : Int), v5 = .int .i64 x5_1 ∧ Aside0 (laws_eqIntS.l0 kq l0 l1 x5_1 = some r) ∧ Aside0 (kq ≤ k) ∧ Drawn0 w w')
 case atStart => exact ⟨(0), yZ, H', ⟨Nat.le_refl _⟩, by repeat (first | exact Drawn0.refl _ | apply Drawn0.step)⟩
 case round =>
  clear H'
  try clear c1; try clear c3; try clear c3b0; try clear c3b1; try clear c3b2
  obtain ⟨x5_1, rfl, HA, HK1, ⟨m1, rfl⟩⟩ := hrel
  cases gk with
  | zero => exact absurd HA.out (by simp [laws_eqIntS.l0])
  | succ k1 =>
   have H := HA.out
   clear HA
   simp only [laws_eqIntS.l0] at H
   by_cases c4 : x5_1 < (l0.length : Int)
   rotate_left
   ·
    rw [if_neg c4] at H
    have c4b0 := decide_eq_false c4
    clear c4
    obtain rfl := Option.some.inj H
    go_wp2
    repeat (go_quiet (fail); try go_wp2)
    go_ret
    exact ⟨by first | rfl | (simp; done) | (simp [*]; done), by repeat (first | exact Drawn0.refl _ | apply Drawn0.step)⟩
   rw [if_pos c4] at H
   have c4b0 := decide_eq_true c4
   clear c4
   by_cases c5 : 0 ≤ x5_1
   rotate_left
   ·
    rw [if_neg c5] at H
    exact absurd H (by simp)
   rw [if_pos c5] at H
   have c5b0 := decide_eq_true c5
   clear c5
   by_cases c6 : x5_1 < (l1.length : Int)
   rotate_left
   ·
    rw [if_neg c6] at H
    exact absurd H (by simp)
   rw [if_pos c6] at H
   have c6b0 := decide_eq_true c6
   clear c6
   by_cases c7 : (rd l0 x5_1) = (rd l1 x5_1)
   rotate_left
   ·
    rw [if_neg c7] at H
    have c7b0 : ((rd l0 x5_1) == (rd l1 x5_1)) = false := beq_eq_false_iff_ne.mpr c7
    have c7b1 : ((rd l0 x5_1) != (rd l1 x5_1)) = true := bne_iff_ne.mpr c7
    obtain rfl := Option.some.inj H
    have p429 : 0 ≤ (x5_1 : Int) := yA
    have q429 : x5_1 < (l0.length : Int) := yA
    obtain ⟨ad429, e429, hx429_0⟩ := Kd.at_int HR0.out x5_1 p429 q429
    cases e429
    replace p429 := eq_true p429
    replace q429 := eq_true q429
    have p430 : 0 ≤ (x5_1 : Int) := yA
    have q430 : x5_1 < (l1.length : Int) := yA
    obtain ⟨ad430, e430, hx430_0⟩ := Kd.at_int HR1.out x5_1 p430 q430
    cases e430
    replace p430 := eq_true p430
    replace q430 := eq_true q430
    go_wp2
    repeat (go_quiet (fail); try go_wp2)
    go_ret
    exact ⟨by first | rfl | (simp; done) | (simp [*]; done), by repeat (first | exact Drawn0.refl _ | apply Drawn0.step)⟩
   rw [if_pos c7] at H
   have c7b0 : ((rd l0 x5_1) == (rd l1 x5_1)) = true := beq_iff_eq.mpr c7
   have c7b1 : ((rd l0 x5_1) != (rd l1 x5_1)) = false := bne_eq_false_iff_eq.mpr c7
   clear c7
   have H' := aM H
   clear H
   have p429 : 0 ≤ (x5_1 : Int) := yA
   have q429 : x5_1 < (l0.length : Int) := yA
   obtain ⟨ad429, e429, hx429_0⟩ := Kd.at_int HR0.out x5_1 p429 q429
   cases e429
   replace p429 := eq_true p429
   replace q429 := eq_true q429
   have p430 : 0 ≤ (x5_1 : Int) := yA
   have q430 : x5_1 < (l1.length : Int) := yA
   obtain ⟨ad430, e430, hx430_0⟩ := Kd.at_int HR1.out x5_1 p430 q430
   cases e430
   replace p430 := eq_true p430
   replace q430 := eq_true q430
   go_wp2
   repeat (go_quiet (fail); try go_wp2)
   go_roundg k1
   case measure => have := HK1.out; omega
   case rel => exact ⟨(wrap64 (x5_1 + 1)), yZ, H', ⟨by have := HK1.out; omega⟩, by repeat (first | exact Drawn0.refl _ | apply Drawn0.step)⟩
def laws_eqIntSS.l0 : Nat → List (List Int) → List (List Int) → Int → Option (Bool)
 | 0, _, _, _ => none
 | k + 1, x0, x1, x5 => if x5 < (x0.length : Int) then (if 0 ≤ x5 then (if x5 < (x1.length : Int) then ((laws_eqIntS.f k (rd_L1 x0 x5) (rd_L1 x1 x5)).bind fun t433 => (if t433 = true then (laws_eqIntSS.l0 k x0 x1 (wrap64 (x5 + 1))) else (some false))) else (none)) else (none)) else (some true)
def laws_eqIntSS.f (k : Nat) (l0 : List (List Int)) (l1 : List (List Int)) : Option (Bool) := if (l0.length : Int) = (l1.length : Int) then (laws_eqIntSS.l0 k l0 l1 0) else (some false)
theorem laws_eqIntSS.calls (k : Nat) (A0 : Option Addr) (c0 : Nat) (l0 : List (List Int)) (A1 : Option Addr) (c1 : Nat) (l1 : List (List Int)) (r : Bool) (w : World) (hr0 : Kd.C (Kd.slice 3 (Kd.int .i64)) w A0 l0.length l0) (hc0 : l0.length ≤ c0) (hr1 : Kd.C (Kd.slice 3 (Kd.int .i64)) w A1 l1.length l1) (hc1 : l1.length ≤ c1) (h : laws_eqIntSS.f k l0 l1 = some r) :
  Calls Try.prog 19 #[.slice A0 l0.length c0, .slice A1 l1.length c1] w fun e w' => e = .returned (.bool r) ∧ Drawn0 w w' := by
 have HR0 := aM hr0
 have HC0 := aM hc0
 clear hr0 hc0
 have HR1 := aM hr1
 have HC1 := aM hc1
 clear hr1 hc1
 have H : (if (l0.length : Int) = (l1.length : Int) then (laws_eqIntSS.l0 k l0 l1 0) else (some false)) = some r := h
 clear h
 by_cases c3 : (l0.length : Int) = (l1.length : Int)
 rotate_left
 ·
  rw [if_neg c3] at H
  have c3b0 : ((l0.length : Int) == (l1.length : Int)) = false := beq_eq_false_iff_ne.mpr c3
  have c3b1 : ((l0.length : Int) != (l1.length : Int)) = true := bne_iff_ne.mpr c3
  have c3b2 : (l0.length == l1.length) = false := by first | simpa using c3 | (simp at c3 ⊢; omega)
  obtain rfl := Option.some.inj H
  go_enter Try.func19, Try.ntmps19
  go_wp2
  repeat (go_quiet (fail); try go_wp2)
  go_ret
  exact ⟨by first | rfl | (simp; done) | (simp [*]; done), by repeat (first | exact Drawn0.refl _ | apply Drawn0.step)⟩
 rw [if_pos c3] at H
 have c3b0 : ((l0.length : Int) == (l1.length : Int)) = true := beq_iff_eq.mpr c3
 have c3b1 : ((l0.length : Int) != (l1.length : Int)) = false := bne_eq_false_iff_eq.mpr c3
 have c3b2 : (l0.length == l1.length) = true := by first | simpa using c3 | (simp at c3 ⊢; omega)
 clear c3
 have H' := aM H
 clear H
 go_enter Try.func19, Try.ntmps19
 go_wp2
 repeat (go_quiet (fail); try go_wp2)
 go_loopg [5] k (fun kq v5 w' => ∃ (x5_1 : Int), v5 = .int .i64 x5_1 ∧ Aside0 (laws_eqIntSS.l0 kq l0 l1 x5_1 = some r) ∧ Aside0 (kq ≤ k) ∧ Drawn0 w w')
 case atStart => exact ⟨(0), yZ, H', ⟨Nat.le_refl _⟩, by repeat (first | exact Drawn0.refl _ | apply Drawn0.step)⟩
 case round =>
  clear H'
  try clear c1; try clear c3; try clear c3b0; try clear c3b1; try clear c3b2
  obtain ⟨x5_1, rfl, HA, HK1, ⟨m1, rfl⟩⟩ := hrel
  cases gk with
  | zero => exact absurd HA.out (by simp [laws_eqIntSS.l0])
  | succ k1 =>
   have H := HA.out
   clear HA
   simp only [laws_eqIntSS.l0] at H
   by_cases c4 : x5_1 < (l0.length : Int)
   rotate_left
   ·
    rw [if_neg c4] at H
    have c4b0 := decide_eq_false c4
    clear c4
    obtain rfl := Option.some.inj H
    go_wp2
    repeat (go_quiet (fail); try go_wp2)
    go_ret
    exact ⟨by first | rfl | (simp; done) | (simp [*]; done), by repeat (first | exact Drawn0.refl _ | apply Drawn0.step)⟩
   rw [if_pos c4] at H
   have c4b0 := decide_eq_true c4
   clear c4
   by_cases c5 : 0 ≤ x5_1
   rotate_left
   ·
    rw [if_neg c5] at H
    exact absurd H (by simp)
   rw [if_pos c5] at H
   have c5b0 := decide_eq_true c5
   clear c5
   by_cases c6 : x5_1 < (l1.length : Int)
   rotate_left
   ·
    rw [if_neg c6] at H
    exact absurd H (by simp)
   rw [if_pos c6] at H
   have c6b0 := decide_eq_true c6
   clear c6
   replace H := oB.mp H
   obtain ⟨t433, A70, H⟩ := H
   have A7 := aM A70
   clear A70
   by_cases c8 : t433 = true
   ·
    subst c8
    rw [if_pos rfl] at H
    have H' := aM H
    clear H
    have p431 : 0 ≤ (x5_1 : Int) := yA
    have q431 : x5_1 < (l0.length : Int) := yA
    obtain ⟨ad431, A431_0, c431_0, e431, hx431_0, hl431_0, hi431_0⟩ := at_L1 HR0.out x5_1 p431 q431
    cases e431
    have HR431_0 := aM hi431_0
    have HC431_0 := aM hl431_0
    clear hi431_0 hl431_0
    replace p431 := eq_true p431
    replace q431 := eq_true q431
    have p432 : 0 ≤ (x5_1 : Int) := yA
    have q432 : x5_1 < (l1.length : Int) := yA
    obtain ⟨ad432, A432_0, c432_0, e432, hx432_0, hl432_0, hi432_0⟩ := at_L1 HR1.out x5_1 p432 q432
    cases e432
    have HR432_0 := aM hi432_0
    have HC432_0 := aM hl432_0
    clear hi432_0 hl432_0
    replace p432 := eq_true p432
    replace q432 := eq_true q432
    go_wp2_with (first | (go_at_call 10; (with_reducible refine (laws_eqIntS.calls k1 _ _ (rd_L1 l0 x5_1) _ _ (rd_L1 l1 x5_1) true _ ?side1 ?side2 ?side3 ?side4 A7.out).mono ?_); (case side1 => exact xC HR431_0.out); (case side2 => exact HC431_0.out); (case side3 => exact xC HR432_0.out); (case side4 => exact HC432_0.out); rintro e w' ⟨rfl, ⟨nd, rfl⟩⟩; (try first | exact ⟨rfl, _, World.drewN_drewN _ _ _⟩ | exact ⟨rfl, _, Eq.trans (World.drewN_drewN _ _ _) (congrArg (World.drewN _) (Nat.add_assoc _ _ _))⟩)))
    repeat (go_quiet (first | (go_at_call 10; (with_reducible refine (laws_eqIntS.calls k1 _ _ (rd_L1 l0 x5_1) _ _ (rd_L1 l1 x5_1) true _ ?side1 ?side2 ?side3 ?side4 A7.out).mono ?_); (case side1 => exact xC HR431_0.out); (case side2 => exact HC431_0.out); (case side3 => exact xC HR432_0.out); (case side4 => exact HC432_0.out); rintro e w' ⟨rfl, ⟨nd, rfl⟩⟩; (try first | exact ⟨rfl, _, World.drewN_drewN _ _ _⟩ | exact ⟨rfl, _, Eq.trans (World.drewN_drewN _ _ _) (congrArg (World.drewN _) (Nat.add_assoc _ _ _))⟩))); try go_wp2_with (first | (go_at_call 10; (with_reducible refine (laws_eqIntS.calls k1 _ _ (rd_L1 l0 x5_1) _ _ (rd_L1 l1 x5_1) true _ ?side1 ?side2 ?side3 ?side4 A7.out).mono ?_); (case side1 => exact xC HR431_0.out); (case side2 => exact HC431_0.out); (case side3 => exact xC HR432_0.out); (case side4 => exact HC432_0.out); rintro e w' ⟨rfl, ⟨nd, rfl⟩⟩; (try first | exact ⟨rfl, _, World.drewN_drewN _ _ _⟩ | exact ⟨rfl, _, Eq.trans (World.drewN_drewN _ _ _) (congrArg (World.drewN _) (Nat.add_assoc _ _ _))⟩))))
    go_roundg k1
    case measure => have := HK1.out; omega
    case rel => exact ⟨(wrap64 (x5_1 + 1)), yZ, H', ⟨by have := HK1.out; omega⟩, by repeat (first | exact Drawn0.refl _ | apply Drawn0.step)⟩
   replace c8 := Bool.eq_false_iff.mpr c8
   subst c8
   rw [if_neg (show ¬ (false = true) by decide)] at H
   obtain rfl := Option.some.inj H
   have p431 : 0 ≤ (x5_1 : Int) := yA
   have q431 : x5_1 < (l0.length : Int) := yA
   obtain ⟨ad431, A431_0, c431_0, e431, hx431_0, hl431_0, hi431_0⟩ := at_L1 HR0.out x5_1 p431 q431
   cases e431
   have HR431_0 := aM hi431_0
   have HC431_0 := aM hl431_0
   clear hi431_0 hl431_0
   replace p431 := eq_true p431
   replace q431 := eq_true q431
   have p432 : 0 ≤ (x5_1 : Int) := yA
   have q432 : x5_1 < (l1.length : Int) := yA
   obtain ⟨ad432, A432_0, c432_0, e432, hx432_0, hl432_0, hi432_0⟩ := at_L1 HR1.out x5_1 p432 q432
   cases e432
   have HR432_0 := aM hi432_0
   have HC432_0 := aM hl432_0
   clear hi432_0 hl432_0
   replace p432 := eq_true p432
   replace q432 := eq_true q432
   go_wp2_with (first | (go_at_call 10; (with_reducible refine (laws_eqIntS.calls k1 _ _ (rd_L1 l0 x5_1) _ _ (rd_L1 l1 x5_1) false _ ?side1 ?side2 ?side3 ?side4 A7.out).mono ?_); (case side1 => exact xC HR431_0.out); (case side2 => exact HC431_0.out); (case side3 => exact xC HR432_0.out); (case side4 => exact HC432_0.out); rintro e w' ⟨rfl, ⟨nd, rfl⟩⟩; (try first | exact ⟨rfl, _, World.drewN_drewN _ _ _⟩ | exact ⟨rfl, _, Eq.trans (World.drewN_drewN _ _ _) (congrArg (World.drewN _) (Nat.add_assoc _ _ _))⟩)))
   repeat (go_quiet (first | (go_at_call 10; (with_reducible refine (laws_eqIntS.calls k1 _ _ (rd_L1 l0 x5_1) _ _ (rd_L1 l1 x5_1) false _ ?side1 ?side2 ?side3 ?side4 A7.out).mono ?_); (case side1 => exact xC HR431_0.out); (case side2 => exact HC431_0.out); (case side3 => exact xC HR432_0.out); (case side4 => exact HC432_0.out); rintro e w' ⟨rfl, ⟨nd, rfl⟩⟩; (try first | exact ⟨rfl, _, World.drewN_drewN _ _ _⟩ | exact ⟨rfl, _, Eq.trans (World.drewN_drewN _ _ _) (congrArg (World.drewN _) (Nat.add_assoc _ _ _))⟩))); try go_wp2_with (first | (go_at_call 10; (with_reducible refine (laws_eqIntS.calls k1 _ _ (rd_L1 l0 x5_1) _ _ (rd_L1 l1 x5_1) false _ ?side1 ?side2 ?side3 ?side4 A7.out).mono ?_); (case side1 => exact xC HR431_0.out); (case side2 => exact HC431_0.out); (case side3 => exact xC HR432_0.out); (case side4 => exact HC432_0.out); rintro e w' ⟨rfl, ⟨nd, rfl⟩⟩; (try first | exact ⟨rfl, _, World.drewN_drewN _ _ _⟩ | exact ⟨rfl, _, Eq.trans (World.drewN_drewN _ _ _) (congrArg (World.drewN _) (Nat.add_assoc _ _ _))⟩))))
   go_ret
   exact ⟨by first | rfl | (simp; done) | (simp [*]; done), by repeat (first | exact Drawn0.refl _ | apply Drawn0.step)⟩
end Go.Proofs.Ytgidnmpppbkamaa.PFnExactPlaneClass
