-- Laid for this claim by a program of the session's own (wip/tool/myprint.py).
import Derived.Test.YtmfmgnpefjmieaaMFnThresholdTablesx6
import Derived.Test.YtmfmgnpefjmieaaMFnThresholdTablesx16
import Derived.Test.YtmfmgnpefjmieaaMFnThresholdTablesx19
namespace Go.Proofs.Ytmfmgnpefjmieaa.PFnThresholdTables
open Go.RowKit Go.Proofs.YtmfmgnpefjmieaaW.PrintWords Go.Proofs.YtmfmgnpefjmieaaW.PrintLast Go.Proofs.YtmfmgnpefjmieaaW.PrintMore
attribute [local go_sem] max2_int min2_int max_two min_two max_three min_three max_four min_four
set_option linter.unusedVariables false
set_option maxHeartbeats 8000000
set_option maxRecDepth 100000
set_option linter.unusedSimpArgs false
def impl_Sample_canPart.rows (k : Nat) (P : List (List Int)) (L : List Int) : List Int → Option (List (List Int))
  | [] => some []
  | i :: s => (impl_Sample_signed.f k P L i).bind fun v => (impl_Sample_canPart.rows k P L s).bind fun vs => some (v :: vs)
def impl_Sample_canPart.one (k : Nat) (P : List (List Int)) (L : List Int) (s : List Int) : Option Bool :=
  (impl_Sample_canPart.rows k P L s).bind fun vs => (impl_balance.f k vs).bind fun b => (impl_copied.f s).bind fun _ => some b.2
theorem impl_Sample_canPart.drop (s : List Int) (j : Nat) (h : j < s.length) : s.drop j = rd s (j : Int) :: s.drop (j + 1) := by
  rw [List.drop_eq_getElem_cons h]
  simp [rd, List.getD_eq_getElem?_getD, List.getElem?_eq_getElem h]
theorem impl_Sample_canPart.fr_set {S : Nat → Prop} {W : World} {g : Nat} (hS : S g) (i : Nat) (v : Value) : Fr S W (W.setCell ⟨g, i, none⟩ v) :=
  ⟨(Below.refl 0 W).setCell (Nat.zero_le _) _, fun j _ hj => Below.heap_setCell W ⟨g, i, none⟩ v j (fun e => hj (by rw [e]; exact hS))⟩
set_option maxHeartbeats 16000000 in
theorem impl_Sample_canPart.visit (k : Nat) (P : List (List Int)) (L : List Int) (A0 A1 : Option Addr) (c0 c1 : Nat) (s : List Int) (A : Option Addr) (c : Nat) (b : Bool) (bs bt bn : Nat) (vt vn : Value) (W : World) (hsl : s.length ≤ 1000)
    (hbs : W.heap[bs]? = some (.cells #[.slice A0 P.length c0, .slice A1 L.length c1] 46 (0, 0))) (hbt : W.heap[bt]? = some (.cells #[vt] 24 (0, 0))) (hbn : W.heap[bn]? = some (.cells #[vn] 24 (0, 0))) (hnt : bt ≠ bn)
    (hC0 : Kd.C (Kd.slice 3 (Kd.int .i64)) W A0 P.length P) (hc0 : P.length ≤ c0) (hC1 : Kd.C (Kd.int .i64) W A1 L.length L) (hc1 : L.length ≤ c1) (hs : Kd.C (Kd.int .i64) W A s.length s) (hsc : s.length ≤ c) (h : impl_Sample_canPart.one k P L s = some b) :
    Calls Try.prog 155 #[.slice A s.length c, .pointer (some ⟨bs, 0, none⟩), .pointer (some ⟨bt, 0, none⟩), .pointer (some ⟨bn, 0, none⟩)] W fun e W' => e = .returned (.bool b) ∧ ((∃ vt' : Value, W'.heap[bt]? = some (.cells #[vt'] 24 (0, 0))) ∧ ∃ vn' : Value, W'.heap[bn]? = some (.cells #[vn'] 24 (0, 0))) ∧ Fr (fun x => x = bt ∨ x = bn) W W' := by
 unfold impl_Sample_canPart.one at h
 obtain ⟨vs, hvs, h⟩ := oB.mp h
 obtain ⟨⟨bl, ok⟩, hbl, h⟩ := oB.mp h
 obtain ⟨cp, hcp, h⟩ := oB.mp h
 obtain rfl : ok = b := Option.some.inj h
 have hu := Try.underlying46
 have HVS := aM hvs
 have HBL := aM hbl
 have HCP := aM hcp
 have HBS := aM hbs
 have HBT := aM hbt
 have HBN := aM hbn
 have HNE := aM hnt
 have HC0 := aM hC0
 have HK0 := aM hc0
 have HC1 := aM hC1
 have HK1 := aM hc1
 have HS := aM hs
 have HSC := aM hsc
 have HSL := aM hsl
 clear hvs hbl hcp hbs hbt hbn hnt hC0 hc0 hC1 hc1 hs hsc hsl h
 have HB := aM (Below.refl W.heap.size W)
 go_enter Try.func155, Try.ntmps155
 go_wp2_with (first | ((with_reducible refine gate_dst (N := 11) rfl ?_); refine Kd.S_lit (Kd.slice 3 (Kd.int .i64)) _ 24 ?hg (N := 11) ?hd (xs := ([] : List (List Int))) (inner := []) (ok := fun _ => True) (okp := fun _ => True) ?hr ?hp (fun _ hk => hk) trivial (Below.refl _ _) (Nat.le_refl _) (by simp) ?_; (case hd => rfl); (case hg => rfl); (case hr => first | (go_simp; done) | (go_simp; rfl)); (case hp => exact (Reps.none _ _)); intro v102 w2 ho3 hb hg_ hnew_; clear hg_ hnew_; have HO := aM (Kd.S_lower ho3 (below_size HB.out)); replace HB := aM (below_step HB.out hb); clear hb ho3))
 go_loopw [6, 14] (fun v6 v14 w' => ∃ (j : Nat) (V : List (List Int)), v14 = .int .i64 (j : Int) ∧ Aside0 (j ≤ s.length ∧ V.length = j) ∧ Aside0 ((impl_Sample_canPart.rows k P L (s.drop j)).map (fun x => V ++ x) = some vs) ∧ Aside0 (Kd.S (Kd.slice 3 (Kd.int .i64)) 24 w' W.heap.size (fun _ => True) v6 V) ∧ Aside0 (Below W.heap.size W w')) (fun _ v14 _ => s.length - (intOf v14).toNat)
 case atStart => exact ⟨0, [], rfl, ⟨Nat.zero_le _, rfl⟩, ⟨by have h := HVS.out; simpa using h⟩, HO, HB⟩
 case round =>
  clear HO HB
  obtain ⟨j, V, rfl, HJ, HR, HO, HB⟩ := hrel
  by_cases cj : j < s.length
  ·
   have d0 : decide ((j : Int) < (s.length : Int)) = true := decide_eq_true (by omega)
   have d1 : decide (j < s.length) = true := decide_eq_true cj
   have p0 : (0 ≤ (j : Int)) = True := eq_true (by omega)
   have p1 : ((j : Int) < (s.length : Int)) = True := eq_true (by omega)
   have hJb : j < 1000 := Nat.lt_of_lt_of_le cj HSL.out
   have hR := HR.out
   rw [impl_Sample_canPart.drop s j cj] at hR
   simp only [impl_Sample_canPart.rows] at hR
   obtain ⟨x, hR, hx⟩ := Option.map_eq_some_iff.mp hR
   obtain ⟨v, hv, hR⟩ := oB.mp hR
   obtain ⟨y, hy, hR⟩ := oB.mp hR
   obtain rfl := Option.some.inj hR
   have HV := aM hv
   have HCJ := aM cj
   have HR2 := aM (show (impl_Sample_canPart.rows k P L (s.drop (j + 1))).map (fun x => (V ++ [v]) ++ x) = some vs by rw [hy, ← hx]; simp)
   obtain ⟨ad, e, hc⟩ := Kd.at_int (Kd.C_below HS.out HB.out) (j : Int) (by omega) (by omega)
   cases e
   rw [Int.toNat_natCast] at hc
   have hz0 := (bC ((HB.out.block bs (blk_lt HBS.out)).trans HBS.out) 0).trans (show _ = some (.slice A0 P.length c0) from rfl)
   have hz1 := (bC ((HB.out.block bs (blk_lt HBS.out)).trans HBS.out) 1).trans (show _ = some (.slice A1 L.length c1) from rfl)
   clear hv hy hx hR HR cj
   go_wp2_with (first | (go_at_call 156; (with_reducible refine (impl_Sample_signed.calls k _ _ P _ _ L (rd s (j : Int)) v _ ?sa ?sb ?sc ?sd HV.out).mono ?_); (case sa => repeat (first | exact (Kd.C_below HC0.out HB.out) | (with_reducible refine Kd.C_alloc ?_ _) | (with_reducible refine Kd.C_drew ?_) | (with_reducible refine Kd.C_drewN ?_ _))); (case sb => exact HK0.out); (case sc => repeat (first | exact (Kd.C_below HC1.out HB.out) | (with_reducible refine Kd.C_alloc ?_ _) | (with_reducible refine Kd.C_drew ?_) | (with_reducible refine Kd.C_drewN ?_ _))); (case sd => exact HK1.out); rintro e w3 ⟨v21, rfl, hr, hb⟩; have HO := aM (Kd.S_elder' (xS HO.out) (Kd.R_base hr) hb); have HH := aM (Kd.R_lower hr (below_size (xH HB.out))); have HB := yS0 HB hb; obtain ⟨Ah, ch, eh⟩ := Kd.R_slice HH.out; subst eh) | ((with_reducible refine gate_builtin (b := .append) (xs := #[.tmp 18, .tmp 22]) rfl ?_); at_builtin; refine Kd.S_append (Kd.slice 3 (Kd.int .i64)) (w0 := W) W.heap.size rfl (.tmp 18) (.tmp 22) 44 24 (.slice none 0 0) 24 rfl Try.underlying44 info24 rfl (by decide) (by omega) u6 V v [.slice Ah v.length ch] (fun _ => True) (fun k_ => some k_ = (.slice Ah v.length ch : Value).ownBlock) rfl rfl ?aP (fun k_ hk_ => ((rM (ok' := fun k_ => ((fun _ => True)) k_ ∧ some k_ ≠ (u6 : Value).ownBlock) (Kd.R_apart' (HH.out) (Kd.S_typed HO.out) (by decide)) (fun k_ hk => ⟨trivial, hk.2⟩))).1 k_ hk_.symm) ?aF ?aO ?aB ?aS ?aL ?_; (case aP => exact Kd.M_row (rM (Kd.R_tight rfl (rM (ok' := fun k_ => ((fun _ => True)) k_ ∧ some k_ ≠ (u6 : Value).ownBlock) (Kd.R_apart' (HH.out) (Kd.S_typed HO.out) (by decide)) (fun k_ hk => ⟨trivial, hk.2⟩))) (fun _ h_ => h_))); (case aB => exact (xH HB.out)); (case aF => exact (fun _ _ => trivial)); (case aO => exact (zS (Kd.S_mono HO.out (fun k_ hk => ⟨trivial, fun e_ => hk.2 e_⟩)))); (case aS => exact (below_size (xH HB.out))); (case aL => have := HJ.out; have := HSL.out; omega); intro v23 w16 ho hb hg hat; replace HB := aM (hb); replace HO := aM (ho); clear HH; clear ho hb hg hat))
   go_roundw
   case rel => exact ⟨j + 1, V ++ [v], by go_num, ⟨HCJ.out, by have := HJ.out; simp; omega⟩, HR2, HO, HB⟩
   case measure => have := HCJ.out; simp [intOf]; omega
  ·
   have d0 : decide ((j : Int) < (s.length : Int)) = false := decide_eq_false (by omega)
   have d1 : decide (j < s.length) = false := decide_eq_false cj
   have hR := HR.out
   rw [List.drop_of_length_le (by omega)] at hR
   simp only [impl_Sample_canPart.rows, Option.map_some, List.append_nil] at hR
   obtain rfl := Option.some.inj hR
   obtain ⟨Av, cv, ev⟩ := Kd.S_slice HO.out
   subst ev
   clear hR HR cj
   cases ok with
   | false =>
    go_wp2_with (first | (go_at_call 157; (with_reducible refine (impl_balance.calls k _ _ V bl false _ ?sa ?sb HBL.out).mono ?_); (case sa => repeat (first | exact (Kd.S_reads' HO.out).2.2 | (with_reducible refine Kd.C_alloc ?_ _) | (with_reducible refine Kd.C_drew ?_) | (with_reducible refine Kd.C_drewN ?_ _))); (case sb => exact (Kd.S_reads' HO.out).2.1); rintro e w5 ⟨v27, rfl, hr, hb⟩; have n2_ := yS0 HB hb; clear HB hb hr; have HB := n2_; clear n2_))
    go_ret
    exact ⟨rfl, ⟨⟨_, (HB.out.block bt (blk_lt HBT.out)).trans HBT.out⟩, _, (HB.out.block bn (blk_lt HBN.out)).trans HBN.out⟩, Fr.below (by first | exact HB.out | exact eD HB.out | exact eN HB.out _)⟩
   | true =>
    go_wp2_with (first | (go_at_call 157; (with_reducible refine (impl_balance.calls k _ _ V bl true _ ?sa ?sb HBL.out).mono ?_); (case sa => repeat (first | exact (Kd.S_reads' HO.out).2.2 | (with_reducible refine Kd.C_alloc ?_ _) | (with_reducible refine Kd.C_drew ?_) | (with_reducible refine Kd.C_drewN ?_ _))); (case sb => exact (Kd.S_reads' HO.out).2.1); rintro e w5 ⟨v27, rfl, hr, hb⟩; obtain ⟨A27, c27, e27⟩ := Kd.R_slice hr; subst e27; have n2_ := yS0 HB hb; clear HB hb hr; have HB := n2_; clear n2_) | (go_at_call 113; (with_reducible refine (impl_copied.calls _ _ s cp _ ?sa ?sb HCP.out).mono ?_); (case sa => repeat (first | exact (Kd.C_below HS.out HB.out) | (with_reducible refine Kd.C_alloc ?_ _) | (with_reducible refine Kd.C_drew ?_) | (with_reducible refine Kd.C_drewN ?_ _))); (case sb => exact HSC.out); rintro e w6 ⟨v32, rfl, hr, hb⟩; obtain ⟨A32, c32, e32⟩ := Kd.R_slice hr; subst e32; have n2_ := yS0 HB hb; clear HB hb hr; have HB := n2_; clear n2_; have ht := (bC ((HB.out.block bt (blk_lt HBT.out)).trans HBT.out) 0).trans (show _ = some vt from rfl); have hft := bF ((HB.out.block bt (blk_lt HBT.out)).trans HBT.out) 0; have hn := (bC ((HB.out.block bn (blk_lt HBN.out)).trans HBN.out) 0).trans (show _ = some vn from rfl); have hfn := bF ((HB.out.block bn (blk_lt HBN.out)).trans HBN.out) 0; have hne := HNE.out; have hne2 := HNE.out.symm))
    go_ret
    have hT := (HB.out.block bt (blk_lt HBT.out)).trans HBT.out
    have hN := (HB.out.block bn (blk_lt HBN.out)).trans HBN.out
    have hF : Fr (fun x => x = bt ∨ x = bn) W _ := Fr.below HB.out
    refine ⟨rfl, ⟨⟨_, blk_far (blk_put hT 0 _ rfl) HNE.out _⟩, _, blk_put (blk_far hN HNE.out.symm _) 0 _ rfl⟩, (hF.trans (impl_Sample_canPart.fr_set (.inl rfl) 0 _)).trans (impl_Sample_canPart.fr_set (.inr rfl) 0 _)⟩
def impl_Sample_canPart.p (k : Nat) (P : List (List Int)) (L : List Int) (s : List Int) : Bool := (impl_Sample_canPart.one k P L s).getD false
def impl_Sample_canPart.Inv (P : List (List Int)) (L : List Int) (A0 A1 : Option Addr) (c0 c1 : Nat) (w : World) (bs bt bn : Nat) (W : World) : Prop :=
  W.heap[bs]? = some (.cells #[.slice A0 P.length c0, .slice A1 L.length c1] 46 (0, 0)) ∧ (∃ vt : Value, W.heap[bt]? = some (.cells #[vt] 24 (0, 0))) ∧ (∃ vn : Value, W.heap[bn]? = some (.cells #[vn] 24 (0, 0))) ∧ Below w.heap.size w W
theorem impl_Sample_canPart.Inv.below {P : List (List Int)} {L : List Int} {A0 A1 : Option Addr} {c0 c1 : Nat} {w : World} {bs bt bn : Nat} {W W' : World} (h : impl_Sample_canPart.Inv P L A0 A1 c0 c1 w bs bt bn W) (hb : Below W.heap.size W W') : impl_Sample_canPart.Inv P L A0 A1 c0 c1 w bs bt bn W' := by
  obtain ⟨i1, ⟨vt, i2⟩, ⟨vn, i3⟩, i4⟩ := h
  exact ⟨(hb.block bs (blk_lt i1)).trans i1, ⟨vt, (hb.block bt (blk_lt i2)).trans i2⟩, ⟨vn, (hb.block bn (blk_lt i3)).trans i3⟩, below_step i4 hb⟩
theorem impl_Sample_canPart.steps (k : Nat) (P : List (List Int)) (L : List Int) (A0 A1 : Option Addr) (c0 c1 : Nat) (w : World) (bs bt bn : Nat) (hbt : w.heap.size ≤ bt) (hbn : w.heap.size ≤ bn) (hnt : bt ≠ bn)
    (hC0 : Kd.C (Kd.slice 3 (Kd.int .i64)) w A0 P.length P) (hc0 : P.length ≤ c0) (hC1 : Kd.C (Kd.int .i64) w A1 L.length L) (hc1 : L.length ≤ c1) (n r : Nat) (hn : n ≤ 1000) (hr : r ≤ 1000)
    (ho : ∀ s ∈ cmbs n r 0, (impl_Sample_canPart.one k P L s).isSome = true) (w1 : World) (h : impl_Sample_canPart.Inv P L A0 A1 c0 c1 w bs bt bn w1) :
    Calls Try.prog 154 #[.int .i64 (n : Int), .int .i64 (r : Int), .func (.func 155) #[] #[.pointer (some ⟨bs, 0, none⟩), .pointer (some ⟨bt, 0, none⟩), .pointer (some ⟨bn, 0, none⟩)]] w1 fun e W' =>
      e = .returned (.bool ((cmbs n r 0).any (impl_Sample_canPart.p k P L))) ∧ impl_Sample_canPart.Inv P L A0 A1 c0 c1 w bs bt bn W' := by
  have h1 := h
  obtain ⟨i1, ⟨vt, i2⟩, ⟨vn, i3⟩, i4⟩ := h1
  refine (choices_calls n r hr hn 155 Try.f155 Try.func155 (by kernel_rfl) rfl _ (impl_Sample_canPart.p k P L) w1 (fun x => x = bt ∨ x = bn) (fun x hx => by rcases hx with rfl | rfl; exact blk_lt i2; exact blk_lt i3) (fun _ W => impl_Sample_canPart.Inv P L A0 A1 c0 c1 w bs bt bn W) (fun _ W W' h hb => h.below hb) h ?_).mono ?_
  · rintro s hs es W A c hI hft hsc hB
    obtain ⟨j1, ⟨ut, j2⟩, ⟨un, j3⟩, j4⟩ := hI
    obtain ⟨b, hx⟩ := Option.isSome_iff_exists.1 (ho s hs)
    refine (impl_Sample_canPart.visit k P L A0 A1 c0 c1 s A c b bs bt bn ut un W (by rw [cmbs_len n r 0 s hs]; exact hr) j1 j2 j3 hnt (Kd.C_below hC0 j4) hc0 (Kd.C_below hC1 j4) hc1 hft.now hsc hx).mono ?_
    rintro e W' ⟨rfl, ⟨t2, t3⟩, t4⟩
    have n1 : bs ≠ bt := blk_ne j1 j2 (by decide)
    have n2 : bs ≠ bn := blk_ne j1 j3 (by decide)
    exact ⟨by simp [impl_Sample_canPart.p, hx], ⟨t4.blk j1 (fun h => h.elim n1 n2), t2, t3, t4.onto j4 (fun x hx => by rcases hx with rfl | rfl; exact hbt; exact hbn)⟩, t4⟩
  · rintro e W' ⟨rfl, hI, _⟩
    exact ⟨rfl, hI⟩
def impl_Sample_canPart.most (n d : Nat) : Nat := min n (d + 2)
def impl_Sample_canPart.sets (n m : Nat) : List (List Int) := (List.range' 2 (m - 1)).flatMap fun r => cmbs n r 0
def impl_Sample_canPart.f (k : Nat) (P : List (List Int)) (L : List Int) : Option Bool :=
  if P.length = 0 then some true
  else if P.length ≤ 1000 ∧ (rd_L2 P 0).length ≤ 1000 ∧ (∀ s ∈ impl_Sample_canPart.sets P.length (impl_Sample_canPart.most P.length (rd_L2 P 0).length), (impl_Sample_canPart.one k P L s).isSome = true) then some (!(impl_Sample_canPart.sets P.length (impl_Sample_canPart.most P.length (rd_L2 P 0).length)).any (impl_Sample_canPart.p k P L)) else none
set_option maxHeartbeats 16000000 in
theorem impl_Sample_canPart.hard (k : Nat) (A0 : Option Addr) (c0 : Nat) (P : List (List Int)) (A1 : Option Addr) (c1 : Nat) (L : List Int) (r : Bool) (w : World) (hr0 : Kd.C (Kd.slice 3 (Kd.int .i64)) w A0 P.length P) (hc0 : P.length ≤ c0) (hr1 : Kd.C (Kd.int .i64) w A1 L.length L) (hc1 : L.length ≤ c1) (h : impl_Sample_canPart.f k P L = some r) :
    Calls Try.prog 137 #[.agg #[.slice A0 P.length c0, .slice A1 L.length c1]] w fun e w' => (∃ v1 v2 : Value, e = .returned (.tuple #[v1, v2, .bool (!r)])) ∧ Below w.heap.size w w' := by
 have hu := Try.underlying46
 unfold impl_Sample_canPart.f at h
 by_cases hz : P.length = 0
 ·
  rw [if_pos hz] at h
  obtain rfl := Option.some.inj h
  have z0 : ((P.length : Int) == 0) = true := by rw [hz]; rfl
  have z1 : (P.length == 0) = true := by rw [hz]; rfl
  have HB := aM (Below.refl w.heap.size w)
  clear h hr0 hc0 hr1 hc1
  go_enter Try.func137, Try.ntmps137
  go_wp2_with (first | (refine yB 1 #[.slice A0 P.length c0, .slice A1 L.length c1] 46 ?_; intro bs hg w3 hbox hb; replace HB := aM (below_step HB.out hb); have hcz0 : w3.cell? ⟨bs, 0, none⟩ = some (.slice A0 P.length c0) := (bC hbox 0).trans rfl; have hcz1 : w3.cell? ⟨bs, 1, none⟩ = some (.slice A1 L.length c1) := (bC hbox 1).trans rfl; clear hbox hb hg))
  ((try simp only [Exit.inBlock, Exit.then]); refine bodyPost_ret (results_tmp3 rfl _ _ _) rfl ?_)
  exact ⟨⟨_, _, rfl⟩, by first | exact HB.out | exact eD HB.out⟩
 ·
  rw [if_neg hz] at h
  by_cases c : P.length ≤ 1000 ∧ (rd_L2 P 0).length ≤ 1000 ∧ (∀ s ∈ impl_Sample_canPart.sets P.length (impl_Sample_canPart.most P.length (rd_L2 P 0).length), (impl_Sample_canPart.one k P L s).isSome = true)
  ·
   rw [if_pos c] at h
   obtain ⟨hn, hd, ho⟩ := c
   have HRES := aM (Option.some.inj h)
   obtain ⟨ad, Ar, cr, e, hrw, hrl, hrc⟩ := at_L2 hr0 0 (Int.le_refl 0) (show (0 : Int) < (P.length : Int) by omega)
   cases e
   have e0 : ad.add (0 : Int).toNat = ad := by simp [Addr.add]
   rw [e0] at hrw
   have HRW0 := aM hrw
   have HC0 := aM hr0
   have HK0 := aM hc0
   have HC1 := aM hr1
   have HK1 := aM hc1
   have HN := aM (show 1 ≤ P.length ∧ P.length ≤ 1000 from ⟨by omega, hn⟩)
   have HD := aM hd
   have HO := aM ho
   have z0 : ((P.length : Int) == 0) = false := beq_eq_false_iff_ne.mpr (by omega)
   have z1 : (P.length == 0) = false := beq_eq_false_iff_ne.mpr hz
   have HB := aM (Below.refl w.heap.size w)
   clear h hrw hrl hrc e0 hr0 hc0 hr1 hc1 hn hd ho hz
   generalize hM : rd_L2 P 0 = row0 at HRW0 HD HO HRES
   go_enter Try.func137, Try.ntmps137
   go_wp2_with (first | (refine yB 1 #[.slice (some ad) P.length c0, .slice A1 L.length c1] 46 ?_; intro bs hg w3 hbox hb; replace HB := aM (below_step HB.out hb); have HBS := aM hbox; have hcz0 : w3.cell? ⟨bs, 0, none⟩ = some (.slice (some ad) P.length c0) := (bC hbox 0).trans rfl; have hcz1 : w3.cell? ⟨bs, 1, none⟩ = some (.slice A1 L.length c1) := (bC hbox 1).trans rfl; clear hbox hb hg))
   have HI := aM (show impl_Sample_canPart.Inv P L (some ad) A1 c0 c1 w bs w3.heap.size (w3.heap.size + 1) ((w3.alloc (.cells #[.slice none 0 0] 24)).alloc (.cells #[.slice none 0 0] 24)) from ⟨bA (bA HBS.out _) _, ⟨_, bA (blk_new w3 _) _⟩, ⟨_, by simpa using blk_new (w3.alloc _) _⟩, eA (eA HB.out _) _⟩)
   have HSZ := aM HB.out.size
   generalize (w3.alloc (.cells #[.slice none 0 0] 24)).alloc (.cells #[.slice none 0 0] 24) = w5 at HI ⊢
   obtain ⟨bt, hbt⟩ : ∃ bt, bt = w3.heap.size := ⟨_, rfl⟩
   obtain ⟨bn, hbn⟩ : ∃ bn, bn = w3.heap.size + 1 := ⟨_, rfl⟩
   rw [← hbn, ← hbt] at HI ⊢
   have HBT := aM (show w.heap.size ≤ bt ∧ w.heap.size ≤ bn ∧ bt ≠ bn from by have := HSZ.out; omega)
   obtain ⟨M, hMM⟩ : ∃ M, M = impl_Sample_canPart.most P.length row0.length := ⟨_, rfl⟩
   rw [← hMM] at HO HRES
   have HMM := aM (show M ≤ 1000 ∧ M = min P.length (row0.length + 2) from by have := HN.out; unfold impl_Sample_canPart.most at hMM; omega)
   clear hbt hbn HB HSZ HBS hcz0 hcz1 hMM
   go_loopw [8] (fun v8 w' => ∃ q : Nat, v8 = .int .i64 (q : Int) ∧ Aside0 (2 ≤ q ∧ (q ≤ M + 1 ∨ q = 2)) ∧ Aside0 (((List.range' 2 (q - 2)).flatMap fun r => cmbs P.length r 0).any (impl_Sample_canPart.p k P L) = false) ∧ Aside0 (impl_Sample_canPart.Inv P L (some ad) A1 c0 c1 w bs bt bn w')) (fun v8 _ => 2000 - (intOf v8).toNat)
   case atStart => exact ⟨2, rfl, ⟨Nat.le_refl _, .inr rfl⟩, ⟨rfl⟩, HI⟩
   case round =>
    clear HI
    obtain ⟨q, rfl, HQ, HF, HI⟩ := hrel
    obtain ⟨i1, ⟨vt, i2⟩, ⟨vn, i3⟩, i4⟩ := HI.out
    have hcz0 := (bC i1 0).trans (show _ = some (.slice (some ad) P.length c0) from rfl)
    have hrw := (i4.cell (World.block_lt_of_cell? w _ HRW0.out)).trans HRW0.out
    have hd1 : decide ((0 : Int) < (P.length : Int)) = true := decide_eq_true (by have := HN.out; omega)
    have hd2 : decide (0 < P.length) = true := decide_eq_true (by have := HN.out; omega)
    have hd3 : (0 < P.length) = True := eq_true (by have := HN.out; omega)
    have hw2 : wrap64 ((row0.length : Int) + 2) = (row0.length : Int) + 2 := by have := HD.out; unfold wrap64; omega
    clear i1 i2 i3 i4
    by_cases cm : (row0.length : Int) + 2 < (P.length : Int)
    ·
     have hcm : ((row0.length : Int) + 2 < (P.length : Int)) = True := eq_true cm
     have hM0 : M = row0.length + 2 := by have := HMM.out; omega
     have HM0 := aM hM0
     by_cases cq : q ≤ M
     ·
      have hq0 : decide ((q : Int) ≤ (row0.length : Int) + 2) = true := decide_eq_true (by omega)
      have HCQ := aM cq
      have hqb : q ≤ 1000 := by have := HMM.out; omega
      clear cq hM0 cm
      obtain ⟨bb, hbb⟩ : ∃ bb, (cmbs P.length q 0).any (impl_Sample_canPart.p k P L) = bb := ⟨_, rfl⟩
      have HBB := aM hbb
      clear hbb
      cases bb with
      | true =>
       go_wp2_with (first | (go_at_call 154; (with_reducible refine (impl_Sample_canPart.steps k P L (some ad) A1 c0 c1 w bs bt bn HBT.out.1 HBT.out.2.1 HBT.out.2.2 HC0.out HK0.out HC1.out HK1.out P.length q ?sa ?sb ?sc _ ?sd).mono ?_); (case sa => exact HN.out.2); (case sb => have := HMM.out; have := HCQ.out; omega); (case sc => exact (fun s hs => HO.out s (List.mem_flatMap.2 ⟨q, List.mem_range'_1.2 (by have := HCQ.out; have := HQ.out; omega), hs⟩))); (case sd => first | exact HI.out | exact HI.out.below (eD (Below.refl _ _)) | exact HI.out.below (eN (Below.refl _ _) _)); rintro e w9 ⟨he, hI⟩; rw [HBB.out] at he; subst he; have HI := aM hI))
       obtain ⟨i1, ⟨vt, i2⟩, ⟨vn, i3⟩, i4⟩ := HI.out
       have ht := (bC i2 0).trans (show _ = some vt from rfl)
       have hn := (bC i3 0).trans (show _ = some vn from rfl)
       clear i1 i2 i3 i4
       refine start_ (n := 5) (S := fun w' => w'.cell? ⟨bt, 0, none⟩ = some vt ∧ w'.cell? ⟨bn, 0, none⟩ = some vn) (ds := []) (bm 5 0) (by kernel_rfl) rfl rfl ⟨ht, hn⟩ (fun hHeld => ?_)
       refine yt2 0 32 (bm 5 1) hHeld ?_
       refine yp 2 2 (bm 5 5) ?_
       refine yt2 1 33 (bm 5 7) hHeld ?_
       refine yp 3 3 (bm 5 15) ?_
       refine yp 4 4 (bm 5 31) ?_
       refine done_ (by kernel_rfl) ?_
       go_wp2
       go_ret3
       have hres : (!r) = true := by rw [← HRES.out, Bool.not_not]; exact List.any_eq_true.2 (by obtain ⟨s, hs, hp⟩ := List.any_eq_true.1 HBB.out; exact ⟨s, List.mem_flatMap.2 ⟨q, (show q ∈ List.range' 2 (M - 1) from List.mem_range'_1.2 (by have := HCQ.out; have := HQ.out; omega)), hs⟩, hp⟩)
       exact ⟨⟨_, _, by rw [hres]; rfl⟩, by first | exact HI.out.2.2.2 | exact eD HI.out.2.2.2 | exact eN HI.out.2.2.2 _⟩
      | false =>
       go_wp2_with (first | (go_at_call 154; (with_reducible refine (impl_Sample_canPart.steps k P L (some ad) A1 c0 c1 w bs bt bn HBT.out.1 HBT.out.2.1 HBT.out.2.2 HC0.out HK0.out HC1.out HK1.out P.length q ?sa ?sb ?sc _ ?sd).mono ?_); (case sa => exact HN.out.2); (case sb => have := HMM.out; have := HCQ.out; omega); (case sc => exact (fun s hs => HO.out s (List.mem_flatMap.2 ⟨q, List.mem_range'_1.2 (by have := HCQ.out; have := HQ.out; omega), hs⟩))); (case sd => first | exact HI.out | exact HI.out.below (eD (Below.refl _ _)) | exact HI.out.below (eN (Below.refl _ _) _)); rintro e w9 ⟨he, hI⟩; rw [HBB.out] at he; subst he; have HI := aM hI))
       go_roundw
       case rel => exact ⟨q + 1, by go_num, ⟨by have := HQ.out; have := HCQ.out; omega⟩, ⟨by have h1 := HF.out; have h2 := HBB.out; rw [show q + 1 - 2 = (q - 2) + 1 by have := HQ.out; omega, List.range'_1_concat, List.flatMap_append, List.any_append, h1, Bool.false_or, show 2 + (q - 2) = q by have := HQ.out; omega]; simpa using h2⟩, by first | exact HI | exact ⟨HI.out.below (eD (Below.refl _ _))⟩ | exact ⟨HI.out.below (eN (Below.refl _ _) _)⟩⟩
       case measure => have := HCQ.out; have := HMM.out; simp [intOf]; omega
     ·
      have hq0 : decide ((q : Int) ≤ (row0.length : Int) + 2) = false := decide_eq_false (by omega)
      have HCQ := aM cq
      clear cq hM0 cm
      go_wp2
      go_ret3
      have hres : (!r) = false := by rw [← HRES.out, Bool.not_not, impl_Sample_canPart.sets, show M - 1 = q - 2 by have := HQ.out; have := HCQ.out; omega]; exact HF.out
      exact ⟨⟨_, _, by rw [hres]; rfl⟩, by first | exact HI.out.2.2.2 | exact eD HI.out.2.2.2 | exact eN HI.out.2.2.2 _⟩
    ·
     have hcm : ((row0.length : Int) + 2 < (P.length : Int)) = False := eq_false cm
     have hM0 : M = P.length := by have := HMM.out; omega
     have HM0 := aM hM0
     by_cases cq : q ≤ M
     ·
      have hq0 : decide ((q : Int) ≤ (P.length : Int)) = true := decide_eq_true (by omega)
      have hq1 : decide (q ≤ P.length) = true := decide_eq_true (by omega)
      have HCQ := aM cq
      have hqb : q ≤ 1000 := by have := HMM.out; omega
      clear cq hM0 cm
      obtain ⟨bb, hbb⟩ : ∃ bb, (cmbs P.length q 0).any (impl_Sample_canPart.p k P L) = bb := ⟨_, rfl⟩
      have HBB := aM hbb
      clear hbb
      cases bb with
      | true =>
       go_wp2_with (first | (go_at_call 154; (with_reducible refine (impl_Sample_canPart.steps k P L (some ad) A1 c0 c1 w bs bt bn HBT.out.1 HBT.out.2.1 HBT.out.2.2 HC0.out HK0.out HC1.out HK1.out P.length q ?sa ?sb ?sc _ ?sd).mono ?_); (case sa => exact HN.out.2); (case sb => have := HMM.out; have := HCQ.out; omega); (case sc => exact (fun s hs => HO.out s (List.mem_flatMap.2 ⟨q, List.mem_range'_1.2 (by have := HCQ.out; have := HQ.out; omega), hs⟩))); (case sd => first | exact HI.out | exact HI.out.below (eD (Below.refl _ _)) | exact HI.out.below (eN (Below.refl _ _) _)); rintro e w9 ⟨he, hI⟩; rw [HBB.out] at he; subst he; have HI := aM hI))
       obtain ⟨i1, ⟨vt, i2⟩, ⟨vn, i3⟩, i4⟩ := HI.out
       have ht := (bC i2 0).trans (show _ = some vt from rfl)
       have hn := (bC i3 0).trans (show _ = some vn from rfl)
       clear i1 i2 i3 i4
       refine start_ (n := 5) (S := fun w' => w'.cell? ⟨bt, 0, none⟩ = some vt ∧ w'.cell? ⟨bn, 0, none⟩ = some vn) (ds := []) (bm 5 0) (by kernel_rfl) rfl rfl ⟨ht, hn⟩ (fun hHeld => ?_)
       refine yt2 0 32 (bm 5 1) hHeld ?_
       refine yp 2 2 (bm 5 5) ?_
       refine yt2 1 33 (bm 5 7) hHeld ?_
       refine yp 3 3 (bm 5 15) ?_
       refine yp 4 4 (bm 5 31) ?_
       refine done_ (by kernel_rfl) ?_
       go_wp2
       go_ret3
       have hres : (!r) = true := by rw [← HRES.out, Bool.not_not]; exact List.any_eq_true.2 (by obtain ⟨s, hs, hp⟩ := List.any_eq_true.1 HBB.out; exact ⟨s, List.mem_flatMap.2 ⟨q, (show q ∈ List.range' 2 (M - 1) from List.mem_range'_1.2 (by have := HCQ.out; have := HQ.out; omega)), hs⟩, hp⟩)
       exact ⟨⟨_, _, by rw [hres]; rfl⟩, by first | exact HI.out.2.2.2 | exact eD HI.out.2.2.2 | exact eN HI.out.2.2.2 _⟩
      | false =>
       go_wp2_with (first | (go_at_call 154; (with_reducible refine (impl_Sample_canPart.steps k P L (some ad) A1 c0 c1 w bs bt bn HBT.out.1 HBT.out.2.1 HBT.out.2.2 HC0.out HK0.out HC1.out HK1.out P.length q ?sa ?sb ?sc _ ?sd).mono ?_); (case sa => exact HN.out.2); (case sb => have := HMM.out; have := HCQ.out; omega); (case sc => exact (fun s hs => HO.out s (List.mem_flatMap.2 ⟨q, List.mem_range'_1.2 (by have := HCQ.out; have := HQ.out; omega), hs⟩))); (case sd => first | exact HI.out | exact HI.out.below (eD (Below.refl _ _)) | exact HI.out.below (eN (Below.refl _ _) _)); rintro e w9 ⟨he, hI⟩; rw [HBB.out] at he; subst he; have HI := aM hI))
       go_roundw
       case rel => exact ⟨q + 1, by go_num, ⟨by have := HQ.out; have := HCQ.out; omega⟩, ⟨by have h1 := HF.out; have h2 := HBB.out; rw [show q + 1 - 2 = (q - 2) + 1 by have := HQ.out; omega, List.range'_1_concat, List.flatMap_append, List.any_append, h1, Bool.false_or, show 2 + (q - 2) = q by have := HQ.out; omega]; simpa using h2⟩, by first | exact HI | exact ⟨HI.out.below (eD (Below.refl _ _))⟩ | exact ⟨HI.out.below (eN (Below.refl _ _) _)⟩⟩
       case measure => have := HCQ.out; have := HMM.out; simp [intOf]; omega
     ·
      have hq0 : decide ((q : Int) ≤ (P.length : Int)) = false := decide_eq_false (by omega)
      have hq1 : decide (q ≤ P.length) = false := decide_eq_false (by omega)
      have HCQ := aM cq
      clear cq hM0 cm
      go_wp2
      go_ret3
      have hres : (!r) = false := by rw [← HRES.out, Bool.not_not, impl_Sample_canPart.sets, show M - 1 = q - 2 by have := HQ.out; have := HCQ.out; omega]; exact HF.out
      exact ⟨⟨_, _, by rw [hres]; rfl⟩, by first | exact HI.out.2.2.2 | exact eD HI.out.2.2.2 | exact eN HI.out.2.2.2 _⟩
  · rw [if_neg c] at h; cases h
set_option maxHeartbeats 16000000 in
theorem impl_Sample_canPart.calls (k : Nat) (A0_0 : Option Addr) (c0_0 : Nat) (l0_0 : List (List Int)) (A0_1 : Option Addr) (c0_1 : Nat) (l0_1 : List Int) (r : Bool) (w : World) (hr0_0 : Kd.C (Kd.slice 3 (Kd.int .i64)) w A0_0 l0_0.length l0_0) (hc0_0 : l0_0.length ≤ c0_0) (hr0_1 : Kd.C (Kd.int .i64) w A0_1 l0_1.length l0_1) (hc0_1 : l0_1.length ≤ c0_1) (h : impl_Sample_canPart.f k l0_0 l0_1 = some r) :
    Calls Try.prog 92 #[.agg #[.slice A0_0 l0_0.length c0_0, .slice A0_1 l0_1.length c0_1]] w fun e w' => e = .returned (.bool r) ∧ Below w.heap.size w w' := by
  have hu := Try.underlying46
  have HR0 := aM hr0_0
  have HC0 := aM hc0_0
  have HR1 := aM hr0_1
  have HC1 := aM hc0_1
  have H := aM h
  clear hr0_0 hc0_0 hr0_1 hc0_1 h
  have HB := aM (Below.refl w.heap.size w)
  go_enter Try.func92, Try.ntmps92
  go_wp2_with (first | (refine yB 1 #[.slice A0_0 l0_0.length c0_0, .slice A0_1 l0_1.length c0_1] 46 ?_; intro bs hg w3 hbox hb; replace HB := aM (below_step HB.out hb); have hcz0 : w3.cell? ⟨bs, 0, none⟩ = some (.slice A0_0 l0_0.length c0_0) := (bC hbox 0).trans rfl; have hcz1 : w3.cell? ⟨bs, 1, none⟩ = some (.slice A0_1 l0_1.length c0_1) := (bC hbox 1).trans rfl; clear hbox hb hg) | (go_at_call 137; (with_reducible refine (impl_Sample_canPart.hard k _ _ l0_0 _ _ l0_1 r _ ?sa ?sb ?sc ?sd H.out).mono ?_); (case sa => repeat (first | exact (Kd.C_below HR0.out HB.out) | (with_reducible refine Kd.C_alloc ?_ _) | (with_reducible refine Kd.C_drew ?_) | (with_reducible refine Kd.C_drewN ?_ _))); (case sb => exact HC0.out); (case sc => repeat (first | exact (Kd.C_below HR1.out HB.out) | (with_reducible refine Kd.C_alloc ?_ _) | (with_reducible refine Kd.C_drew ?_) | (with_reducible refine Kd.C_drewN ?_ _))); (case sd => exact HC1.out); rintro e w5 ⟨⟨v1, v2, rfl⟩, hb⟩; have n2_ := yS0 HB hb; clear HB hb; have HB := n2_; clear n2_))
  go_ret
  exact ⟨by first | rfl | simp, by first | exact HB.out | exact eD HB.out | exact eN HB.out _⟩
def impl_CanPart.f (k : Nat) (l0_0 : List (List Int)) (l0_1 : List Int) : Option (Bool × Bool) := (impl_IsSample.f k l0_0 l0_1).bind fun t597 => (if t597 = true then ((impl_Sample_canPart.f k l0_0 l0_1).bind fun t598 => (some (t598, true))) else (some (false, false)))
theorem impl_CanPart.calls (k : Nat) (A0_0 : Option Addr) (c0_0 : Nat) (l0_0 : List (List Int)) (A0_1 : Option Addr) (c0_1 : Nat) (l0_1 : List Int) (r1 : Bool) (r2 : Bool) (w : World) (hr0_0 : Kd.C (Kd.slice 3 (Kd.int .i64)) w A0_0 l0_0.length l0_0) (hc0_0 : l0_0.length ≤ c0_0) (hr0_1 : Kd.C (Kd.int .i64) w A0_1 l0_1.length l0_1) (hc0_1 : l0_1.length ≤ c0_1) (h : impl_CanPart.f k l0_0 l0_1 = some (r1, r2)) :
    Calls Try.prog 26 #[.agg #[.slice A0_0 l0_0.length c0_0, .slice A0_1 l0_1.length c0_1]] w fun e w' => e = .returned (.tuple #[.bool r1, .bool r2]) ∧ Below w.heap.size w w' := by
 have hu46 := Try.underlying46
 have HR0_0 := aM hr0_0
 have HC0_0 := aM hc0_0
 clear hr0_0 hc0_0
 have HR0_1 := aM hr0_1
 have HC0_1 := aM hc0_1
 clear hr0_1 hc0_1
 have HB := aM (Below.refl w.heap.size w)
 have H : ((impl_IsSample.f k l0_0 l0_1).bind fun t597 => (if t597 = true then ((impl_Sample_canPart.f k l0_0 l0_1).bind fun t598 => (some (t598, true))) else (some (false, false)))) = some (r1, r2) := h
 clear h
 replace H := oB.mp H
 obtain ⟨t597, A20, H⟩ := H
 have A2 := aM A20
 clear A20
 by_cases c3 : t597 = true
 rotate_left
 ·
  replace c3 := Bool.eq_false_iff.mpr c3
  subst c3
  rw [if_neg (show ¬ (false = true) by decide)] at H
  simp only [Option.some.injEq, Prod.mk.injEq] at H
  obtain ⟨rfl, rfl⟩ := H
  go_enter Try.func26, Try.ntmps26
  go_wp2_with (first | (refine yB 1 #[.slice A0_0 l0_0.length c0_0, .slice A0_1 l0_1.length c0_1] 46 ?_; intro gb596 hg w10 hbox hb; have BK596 := aM (hbox); have GW596 := yV0 hg HB; have GE596 := yV0 hg HB; replace HB := yS0 HB hb; clear hb hbox hg; obtain ⟨hcz11_0, hcz11_1, hfz11_0, hfz11_1⟩ := yD2 BK596) | (refine yL 5 Try.func91 #[.agg #[.slice A0_0 l0_0.length c0_0, .slice A0_1 l0_1.length c0_1]] ?_; (with_reducible refine (impl_IsSample.calls k _ _ l0_0 _ _ l0_1 false _ (xC (Kd.C_below HR0_0.out HB.out)) HC0_0.out (xC (Kd.C_below HR0_1.out HB.out)) HC0_1.out A2.out).mono ?_); rintro e w12 ⟨rfl, hb⟩; refine ⟨_, rfl, ?_⟩; replace BK596 := yK BK596 hb; replace HB := yS1 HB GE596 hb; (try clear hb)))
  go_ret2
  exact ⟨yF, xG1 HB.out GE596.out⟩
 subst c3
 rw [if_pos rfl] at H
 replace H := oB.mp H
 obtain ⟨t598, A40, H⟩ := H
 have A4 := aM A40
 clear A40
 simp only [Option.some.injEq, Prod.mk.injEq] at H
 obtain ⟨rfl, rfl⟩ := H
 go_enter Try.func26, Try.ntmps26
 go_wp2_with (first | (refine yB 1 #[.slice A0_0 l0_0.length c0_0, .slice A0_1 l0_1.length c0_1] 46 ?_; intro gb596 hg w5 hbox hb; have BK596 := aM (hbox); have GW596 := yV0 hg HB; have GE596 := yV0 hg HB; replace HB := yS0 HB hb; clear hb hbox hg; obtain ⟨hcz6_0, hcz6_1, hfz6_0, hfz6_1⟩ := yD2 BK596) | (refine yL 5 Try.func91 #[.agg #[.slice A0_0 l0_0.length c0_0, .slice A0_1 l0_1.length c0_1]] ?_; (with_reducible refine (impl_IsSample.calls k _ _ l0_0 _ _ l0_1 true _ (xC (Kd.C_below HR0_0.out HB.out)) HC0_0.out (xC (Kd.C_below HR0_1.out HB.out)) HC0_1.out A2.out).mono ?_); rintro e w7 ⟨rfl, hb⟩; refine ⟨_, rfl, ?_⟩; replace BK596 := yK BK596 hb; replace HB := yS1 HB GE596 hb; (try clear hb); obtain ⟨hcz8_0, hcz8_1, hfz8_0, hfz8_1⟩ := yD2 BK596) | (refine yL 8 Try.func92 #[.agg #[.slice A0_0 l0_0.length c0_0, .slice A0_1 l0_1.length c0_1]] ?_; (with_reducible refine (impl_Sample_canPart.calls k _ _ l0_0 _ _ l0_1 t598 _ (xC (Kd.C_below HR0_0.out HB.out)) HC0_0.out (xC (Kd.C_below HR0_1.out HB.out)) HC0_1.out A4.out).mono ?_); rintro e w9 ⟨rfl, hb⟩; refine ⟨_, rfl, ?_⟩; replace BK596 := yK BK596 hb; replace HB := yS1 HB GE596 hb; (try clear hb)))
 go_ret2
 exact ⟨yF, xG1 HB.out GE596.out⟩
def impl_IsPlane.f (k : Nat) (l0_0 : List Int) (a0_1 : Int) : Option (Bool) := (impl_within.f (l0_0.length : Int) 1 4).bind fun t600 => (if t600 = true then ((impl_allWithin.f k l0_0 (-99) 99).bind fun t601 => (if t601 = true then ((impl_within.f a0_1 (-99) 99).bind fun t602 => (some t602)) else (some false))) else (some false))
theorem impl_IsPlane.calls (k : Nat) (A0_0 : Option Addr) (c0_0 : Nat) (l0_0 : List Int) (a0_1 : Int) (r : Bool) (w : World) (hr0_0 : Kd.C (Kd.int .i64) w A0_0 l0_0.length l0_0) (hc0_0 : l0_0.length ≤ c0_0) (h : impl_IsPlane.f k l0_0 a0_1 = some r) :
    Calls Try.prog 93 #[.agg #[.slice A0_0 l0_0.length c0_0, .int .i64 a0_1]] w fun e w' => e = .returned (.bool r) ∧ Below w.heap.size w w' := by
 have hu28 := Try.underlying28
 have HR0_0 := aM hr0_0
 have HC0_0 := aM hc0_0
 clear hr0_0 hc0_0
 have HB := aM (Below.refl w.heap.size w)
 have H : ((impl_within.f (l0_0.length : Int) 1 4).bind fun t600 => (if t600 = true then ((impl_allWithin.f k l0_0 (-99) 99).bind fun t601 => (if t601 = true then ((impl_within.f a0_1 (-99) 99).bind fun t602 => (some t602)) else (some false))) else (some false))) = some r := h
 clear h
 replace H := oB.mp H
 obtain ⟨t600, A20, H⟩ := H
 have A2 := aM A20
 clear A20
 by_cases c3 : t600 = true
 rotate_left
 ·
  replace c3 := Bool.eq_false_iff.mpr c3
  subst c3
  rw [if_neg (show ¬ (false = true) by decide)] at H
  obtain rfl := Option.some.inj H
  go_enter Try.func93, Try.ntmps93
  go_wp2_with (first | (refine yB 1 #[.slice A0_0 l0_0.length c0_0, .int .i64 a0_1] 28 ?_; intro gb599 hg w11 hbox hb; have BK599 := aM (hbox); have GW599 := yV0 hg HB; have GE599 := yV0 hg HB; replace HB := yS0 HB hb; clear hb hbox hg; obtain ⟨hcz12_0, hcz12_1, hfz12_0, hfz12_1⟩ := yD2 BK599) | (refine yL 6 Try.func109 #[.int .i64 (l0_0.length : Int), .int .i64 1, .int .i64 4] ?_; (with_reducible refine (impl_within.calls (l0_0.length : Int) 1 4 false _ A2.out).mono ?_); rintro e w' ⟨rfl, ⟨nd, rfl⟩⟩; refine ⟨_, rfl, ?_⟩))
  go_ret
  exact ⟨yF, xG1 HB.out GE599.out⟩
 subst c3
 rw [if_pos rfl] at H
 replace H := oB.mp H
 obtain ⟨t601, A40, H⟩ := H
 have A4 := aM A40
 clear A40
 by_cases c5 : t601 = true
 rotate_left
 ·
  replace c5 := Bool.eq_false_iff.mpr c5
  subst c5
  rw [if_neg (show ¬ (false = true) by decide)] at H
  obtain rfl := Option.some.inj H
  go_enter Try.func93, Try.ntmps93
  go_wp2_with (first | (refine yB 1 #[.slice A0_0 l0_0.length c0_0, .int .i64 a0_1] 28 ?_; intro gb599 hg w9 hbox hb; have BK599 := aM (hbox); have GW599 := yV0 hg HB; have GE599 := yV0 hg HB; replace HB := yS0 HB hb; clear hb hbox hg; obtain ⟨hcz10_0, hcz10_1, hfz10_0, hfz10_1⟩ := yD2 BK599) | (refine yL 6 Try.func109 #[.int .i64 (l0_0.length : Int), .int .i64 1, .int .i64 4] ?_; (with_reducible refine (impl_within.calls (l0_0.length : Int) 1 4 true _ A2.out).mono ?_); rintro e w' ⟨rfl, ⟨nd, rfl⟩⟩; refine ⟨_, rfl, ?_⟩) | (go_at_call 88; (with_reducible refine (impl_allWithin.calls k _ _ l0_0 (-99) 99 false _ (xC (Kd.C_below HR0_0.out (xG1 HB.out GE599.out))) HC0_0.out A4.out).mono ?_); rintro e w' ⟨rfl, ⟨nd, rfl⟩⟩))
  go_ret
  exact ⟨yF, xG1 HB.out GE599.out⟩
 subst c5
 rw [if_pos rfl] at H
 replace H := oB.mp H
 obtain ⟨t602, A60, H⟩ := H
 have A6 := aM A60
 clear A60
 obtain rfl := Option.some.inj H
 go_enter Try.func93, Try.ntmps93
 go_wp2_with (first | (refine yB 1 #[.slice A0_0 l0_0.length c0_0, .int .i64 a0_1] 28 ?_; intro gb599 hg w7 hbox hb; have BK599 := aM (hbox); have GW599 := yV0 hg HB; have GE599 := yV0 hg HB; replace HB := yS0 HB hb; clear hb hbox hg; obtain ⟨hcz8_0, hcz8_1, hfz8_0, hfz8_1⟩ := yD2 BK599) | (refine yL 6 Try.func109 #[.int .i64 (l0_0.length : Int), .int .i64 1, .int .i64 4] ?_; (with_reducible refine (impl_within.calls (l0_0.length : Int) 1 4 true _ A2.out).mono ?_); rintro e w' ⟨rfl, ⟨nd, rfl⟩⟩; refine ⟨_, rfl, ?_⟩) | (go_at_call 88; (with_reducible refine (impl_allWithin.calls k _ _ l0_0 (-99) 99 true _ (xC (Kd.C_below HR0_0.out (xG1 HB.out GE599.out))) HC0_0.out A4.out).mono ?_); rintro e w' ⟨rfl, ⟨nd, rfl⟩⟩) | (go_at_call 109; (with_reducible refine (impl_within.calls a0_1 (-99) 99 t602 _ A6.out).mono ?_); rintro e w' ⟨rfl, ⟨nd, rfl⟩⟩))
 go_ret
 exact ⟨yF, xG1 HB.out GE599.out⟩
def impl_Plane_side.f (k : Nat) (l0_0 : List Int) (a0_1 : Int) (l1 : List Int) : Option (Int) := (impl_product.f k l0_0 l1).bind fun t604 => (if t604 ≥ a0_1 then (some 1) else (some (-1)))
theorem impl_Plane_side.calls (k : Nat) (A0_0 : Option Addr) (c0_0 : Nat) (l0_0 : List Int) (a0_1 : Int) (A1 : Option Addr) (c1 : Nat) (l1 : List Int) (r : Int) (w : World) (hr0_0 : Kd.C (Kd.int .i64) w A0_0 l0_0.length l0_0) (hc0_0 : l0_0.length ≤ c0_0) (hr1 : Kd.C (Kd.int .i64) w A1 l1.length l1) (hc1 : l1.length ≤ c1) (h : impl_Plane_side.f k l0_0 a0_1 l1 = some r) :
    Calls Try.prog 138 #[.agg #[.slice A0_0 l0_0.length c0_0, .int .i64 a0_1], .slice A1 l1.length c1] w fun e w' => e = .returned (.int .i64 r) ∧ Below w.heap.size w w' := by
 have hu28 := Try.underlying28
 have HR0_0 := aM hr0_0
 have HC0_0 := aM hc0_0
 clear hr0_0 hc0_0
 have HR1 := aM hr1
 have HC1 := aM hc1
 clear hr1 hc1
 have HB := aM (Below.refl w.heap.size w)
 have H : ((impl_product.f k l0_0 l1).bind fun t604 => (if t604 ≥ a0_1 then (some 1) else (some (-1)))) = some r := h
 clear h
 replace H := oB.mp H
 obtain ⟨t604, A30, H⟩ := H
 have A3 := aM A30
 clear A30
 obtain ⟨c4, -, H⟩ | ⟨c4, -, H⟩ := yif H
 ·
  have c4b0 : decide (a0_1 ≤ t604) = true := decide_eq_true c4
  clear c4
  obtain rfl := Option.some.inj H
  go_enter Try.func138, Try.ntmps138
  go_wp2_with (first | (refine yB 2 #[.slice A0_0 l0_0.length c0_0, .int .i64 a0_1] 28 ?_; intro gb603 hg w5 hbox hb; have BK603 := aM (hbox); have GW603 := yV0 hg HB; have GE603 := yV0 hg HB; replace HB := yS0 HB hb; clear hb hbox hg; obtain ⟨hcz6_0, hcz6_1, hfz6_0, hfz6_1⟩ := yD2 BK603) | (go_at_call 151; (with_reducible refine (impl_product.calls k _ _ l0_0 _ _ l1 t604 _ (xC (Kd.C_below HR0_0.out HB.out)) HC0_0.out (xC (Kd.C_below HR1.out HB.out)) HC1.out A3.out).mono ?_); rintro e w' ⟨rfl, ⟨nd, rfl⟩⟩; (try exact yDr)))
  repeat (go_quiet (first | (refine yB 2 #[.slice A0_0 l0_0.length c0_0, .int .i64 a0_1] 28 ?_; intro gb603 hg w5 hbox hb; have BK603 := aM (hbox); have GW603 := yV0 hg HB; have GE603 := yV0 hg HB; replace HB := yS0 HB hb; clear hb hbox hg; obtain ⟨hcz6_0, hcz6_1, hfz6_0, hfz6_1⟩ := yD2 BK603) | (go_at_call 151; (with_reducible refine (impl_product.calls k _ _ l0_0 _ _ l1 t604 _ (xC (Kd.C_below HR0_0.out HB.out)) HC0_0.out (xC (Kd.C_below HR1.out HB.out)) HC1.out A3.out).mono ?_); rintro e w' ⟨rfl, ⟨nd, rfl⟩⟩; (try exact yDr))); try go_wp2_with (first | (refine yB 2 #[.slice A0_0 l0_0.length c0_0, .int .i64 a0_1] 28 ?_; intro gb603 hg w5 hbox hb; have BK603 := aM (hbox); have GW603 := yV0 hg HB; have GE603 := yV0 hg HB; replace HB := yS0 HB hb; clear hb hbox hg; obtain ⟨hcz6_0, hcz6_1, hfz6_0, hfz6_1⟩ := yD2 BK603) | (go_at_call 151; (with_reducible refine (impl_product.calls k _ _ l0_0 _ _ l1 t604 _ (xC (Kd.C_below HR0_0.out HB.out)) HC0_0.out (xC (Kd.C_below HR1.out HB.out)) HC1.out A3.out).mono ?_); rintro e w' ⟨rfl, ⟨nd, rfl⟩⟩; (try exact yDr))))
  go_ret
  exact ⟨yF, xG1 HB.out GE603.out⟩
 have c4b0 : decide (a0_1 ≤ t604) = false := decide_eq_false c4
 clear c4
 obtain rfl := Option.some.inj H
 go_enter Try.func138, Try.ntmps138
 go_wp2_with (first | (refine yB 2 #[.slice A0_0 l0_0.length c0_0, .int .i64 a0_1] 28 ?_; intro gb603 hg w7 hbox hb; have BK603 := aM (hbox); have GW603 := yV0 hg HB; have GE603 := yV0 hg HB; replace HB := yS0 HB hb; clear hb hbox hg; obtain ⟨hcz8_0, hcz8_1, hfz8_0, hfz8_1⟩ := yD2 BK603) | (go_at_call 151; (with_reducible refine (impl_product.calls k _ _ l0_0 _ _ l1 t604 _ (xC (Kd.C_below HR0_0.out HB.out)) HC0_0.out (xC (Kd.C_below HR1.out HB.out)) HC1.out A3.out).mono ?_); rintro e w' ⟨rfl, ⟨nd, rfl⟩⟩; (try exact yDr)))
 repeat (go_quiet (first | (refine yB 2 #[.slice A0_0 l0_0.length c0_0, .int .i64 a0_1] 28 ?_; intro gb603 hg w7 hbox hb; have BK603 := aM (hbox); have GW603 := yV0 hg HB; have GE603 := yV0 hg HB; replace HB := yS0 HB hb; clear hb hbox hg; obtain ⟨hcz8_0, hcz8_1, hfz8_0, hfz8_1⟩ := yD2 BK603) | (go_at_call 151; (with_reducible refine (impl_product.calls k _ _ l0_0 _ _ l1 t604 _ (xC (Kd.C_below HR0_0.out HB.out)) HC0_0.out (xC (Kd.C_below HR1.out HB.out)) HC1.out A3.out).mono ?_); rintro e w' ⟨rfl, ⟨nd, rfl⟩⟩; (try exact yDr))); try go_wp2_with (first | (refine yB 2 #[.slice A0_0 l0_0.length c0_0, .int .i64 a0_1] 28 ?_; intro gb603 hg w7 hbox hb; have BK603 := aM (hbox); have GW603 := yV0 hg HB; have GE603 := yV0 hg HB; replace HB := yS0 HB hb; clear hb hbox hg; obtain ⟨hcz8_0, hcz8_1, hfz8_0, hfz8_1⟩ := yD2 BK603) | (go_at_call 151; (with_reducible refine (impl_product.calls k _ _ l0_0 _ _ l1 t604 _ (xC (Kd.C_below HR0_0.out HB.out)) HC0_0.out (xC (Kd.C_below HR1.out HB.out)) HC1.out A3.out).mono ?_); rintro e w' ⟨rfl, ⟨nd, rfl⟩⟩; (try exact yDr))))
 go_ret
 exact ⟨yF, xG1 HB.out GE603.out⟩
def impl_Plane_table.l0 : Nat → Int → List Int → Int → Int → List Int → Int → Option (List Int)
  | 0, _, _, _, _, _, _ => none
  | k + 1, x3, x4, x11, x12, x606000, x606001 => if x12 < x11 then ((impl_bitPoint.f k x3 x12).bind fun t609 => ((impl_Plane_side.f k x606000 x606001 t609).bind fun t612 => (if x4.length < 17592186044416 then (impl_Plane_table.l0 k x3 (x4 ++ [wrap64 (Int.tdiv (wrap64 (t612 + 1)) 2)]) x11 (wrap64 (x12 + 1)) x606000 x606001) else (none)))) else (some x4)
def impl_Plane_table.f (k : Nat) (l0_0 : List Int) (a0_1 : Int) : Option (List Int) := impl_Plane_table.l0 k (l0_0.length : Int) (([] : List Int)) (shl .i64 1 (l0_0.length : Int)) 0 l0_0 a0_1
def impl_Plane_table.T5 : Bool × List (List Nat × List Nat) := (true, [([], []), ([], []), ([], []), ([], []), ([2, 3], [2, 3]), ([1, 4, 4], [1, 4]), ([5], [5]), ([6], [6]), ([7], [7]), ([0, 8, 5], [0, 8]), ([9, 9, 0, 1, 2, 3, 4, 5, 6, 7, 8, 9], [0, 9])])
def impl_Plane_table.B5 : List Nat := [0, 0, 0, 0, 12, 30, 62, 126, 254, 511, 1023]
theorem impl_Plane_table.tab5 : rtab .any (opsOf Try.f94 5) = impl_Plane_table.T5 := by kernel_rfl
theorem impl_Plane_table.bits5 : waitsOk impl_Plane_table.T5.2 impl_Plane_table.B5 = true := by kernel_rfl
theorem impl_Plane_table.calls (k : Nat) (A0_0 : Option Addr) (c0_0 : Nat) (l0_0 : List Int) (a0_1 : Int) (r : List Int) (w : World) (hr0_0 : Kd.C (Kd.int .i64) w A0_0 l0_0.length l0_0) (hc0_0 : l0_0.length ≤ c0_0) (h : impl_Plane_table.f k l0_0 a0_1 = some r) :
    Calls Try.prog 94 #[.agg #[.slice A0_0 l0_0.length c0_0, .int .i64 a0_1]] w fun e w' => ∃ v0_ : Value, e = .returned (v0_) ∧ Kd.R (Kd.int .i64) 3 w' w.heap.size (fun _ => True) v0_ r ∧ Below w.heap.size w w' := by
 have hu28 := Try.underlying28
 have HR0_0 := aM hr0_0
 have HC0_0 := aM hc0_0
 clear hr0_0 hc0_0
 have HB := aM (Below.refl w.heap.size w)
 have H : (impl_Plane_table.l0 k (l0_0.length : Int) (([] : List Int)) (shl .i64 1 (l0_0.length : Int)) 0 l0_0 a0_1) = some r := h
 clear h
 obtain ⟨y606, hy606⟩ := yE (([] : List Int) : List Int)
 replace H : (impl_Plane_table.l0 k (l0_0.length : Int) y606 (shl .i64 1 (l0_0.length : Int)) 0 l0_0 a0_1) = some r := yI hy606 H
 have Ny606 := aM hy606
 clear hy606
 obtain ⟨ji2, hji2⟩ := yJ ((shl .i64 1 (l0_0.length : Int)))
 (first | rw [hji2] at H | simp only [hji2] at H)
 have hji2_ : (IntKind.i64.wrap (1 * 2 ^ min (l0_0.length : Int).toNat 64)) = ji2 := hji2
 have hji2z : (l0_0.length : Int) ≤ 64 → (IntKind.i64.wrap (1 * 2 ^ (l0_0.length : Int).toNat)) = ji2 := shl_small hji2
 have hji2p : (IntKind.i64.wrap (1 * 2 ^ min l0_0.length 64)) = ji2 := hji2_
 have hji2q : (l0_0.length : Int) ≤ 64 → (IntKind.i64.wrap (1 * 2 ^ l0_0.length)) = ji2 := hji2z
 have hji2r : (IntKind.i64.wrap (2 ^ min l0_0.length 64)) = ji2 := by have h_ := hji2p; rw [Int.one_mul] at h_; exact h_
 have hji2s : (l0_0.length : Int) ≤ 64 → (IntKind.i64.wrap (2 ^ l0_0.length)) = ji2 := fun hle_ => by have h_ := hji2q hle_; rw [Int.one_mul] at h_; exact h_
 have hji2u : (IntKind.i64.wrap (2 ^ min (l0_0.length : Int).toNat 64)) = ji2 := by have h_ := hji2_; rw [Int.one_mul] at h_; exact h_
 have hji2v : (l0_0.length : Int) ≤ 64 → (IntKind.i64.wrap (2 ^ (l0_0.length : Int).toNat)) = ji2 := fun hle_ => by have h_ := hji2z hle_; rw [Int.one_mul] at h_; exact h_
 have hji2y : (wrap64 (1 * 2 ^ min (l0_0.length : Int).toNat 64)) = ji2 := (i64_w _).symm.trans hji2_
 have hji2x : (l0_0.length : Int) ≤ 64 → (wrap64 (1 * 2 ^ (l0_0.length : Int).toNat)) = ji2 := fun h_ => (i64_w _).symm.trans (hji2z h_)
 have H' := aM H
 clear H
 go_enter Try.func94, Try.ntmps94
 go_wp2_with (first | (refine yB 1 #[.slice A0_0 l0_0.length c0_0, .int .i64 a0_1] 28 ?_; intro gb605 hg w3 hbox hb; have BK605 := aM (hbox); have GW605 := yV0 hg HB; have GE605 := yV0 hg HB; replace HB := yS0 HB hb; clear hb hbox hg; obtain ⟨hcz4_0, hcz4_1, hfz4_0, hfz4_1⟩ := yD2 BK605) | ((with_reducible refine gate_dst (N := 9) rfl ?_); refine Kd.R_lit (Kd.int .i64) _ 3 ?hg (N := 9) ?hd (xs := ([] : List Int)) (inner := []) (ok := fun _ => True) (okp := fun _ => True) ?hr ?hp (fun _ hk => hk) trivial (Below.refl _ _) (Nat.le_refl _) (by simp) ?_; (case hd => rfl); (case hg => rfl); (case hr => first | (go_simp; done) | (go_simp; rfl)); (case hp => exact (Reps.none _ _)); intro v607 w5 ho6 hb hg_ hnew_; clear hg_ hnew_; (first | rw [← Ny606.out] at ho6 | (simp only [Int.reduceToNat] at ho6; rw [← Ny606.out] at ho6)); have HO608 := aM (Kd.R_lower ho6 (below_size (xG1 HB.out GE605.out))); replace BK605 := yK BK605 hb; replace HB := yS1 HB GE605 hb; clear hb ho6))
 go_loopg [4, 12] k (fun kq v4 v12 w' => ∃ (x4_1 : List Int) (x12_1 : Int), v12 = .int .i64 x12_1 ∧ Aside0 (impl_Plane_table.l0 kq (l0_0.length : Int) x4_1 ji2 x12_1 l0_0 a0_1 = some r) ∧ Aside0 (kq ≤ k) ∧ Aside0 (Kd.R (Kd.int .i64) 3 w' w.heap.size (fun _ => True) v4 x4_1) ∧ Aside0 (w'.heap[gb605]? = some (.cells #[(.slice A0_0 l0_0.length c0_0), .int .i64 a0_1] 28 (0, 0))) ∧ Aside0 (Below w.heap.size w w'))
 case atStart => exact ⟨(y606), (0), yZ, H', ⟨Nat.le_refl _⟩, ⟨xR HO608.out⟩, ⟨xB BK605.out⟩, ⟨xG1 HB.out GE605.out⟩⟩
 case round =>
  clear H'
  try clear hcz4_0
  try clear hcz4_1
  try clear hfz4_0
  try clear hfz4_1
  obtain ⟨x4_1, x12_1, rfl, HA, HK1, HO_4, BK605, HB⟩ := hrel
  cases gk with
  | zero => exact absurd HA.out (by simp [impl_Plane_table.l0])
  | succ k1 =>
   have H := HA.out
   clear HA
   simp only [impl_Plane_table.l0] at H
   obtain ⟨-, c7b0, H⟩ | ⟨-, c7b0, H⟩ := yif H
   rotate_left
   ·
    obtain rfl := Option.some.inj H
    go_wp2
    go_ret
    exact ⟨_, by first | rfl | (simp [errW_none, errW_some] <;> rfl) | (simp only [← hji2]; first | rfl | (simp [errW_none, errW_some] <;> rfl)) | (simp [*, errW_none, errW_some] <;> rfl), xR HO_4.out, xG1 HB.out GE605.out⟩
   replace H := oB.mp H
   obtain ⟨t609, A80, H⟩ := H
   have A8 := aM A80
   clear A80
   replace H := oB.mp H
   obtain ⟨t612, A90, H⟩ := H
   have A9 := aM A90
   clear A90
   obtain ⟨c10, -, H⟩ | ⟨c10, -, H⟩ := yif H
   rotate_left
   · exact absurd H (by simp)
   have LMc10 := aM c10
   clear c10
   obtain ⟨y613, hy613⟩ := yE (x4_1 ++ [wrap64 (Int.tdiv (wrap64 (t612 + 1)) 2)] : List Int)
   replace H : (impl_Plane_table.l0 k1 (l0_0.length : Int) y613 ji2 (wrap64 (x12_1 + 1)) l0_0 a0_1) = some r := yI hy613 H
   have Ny613 := aM hy613
   clear hy613
   have H' := aM H
   clear H
   try go_wp2
   replace HO_4 := aM (rD HO_4.out)
   replace BK605 := aM (bD BK605.out)
   replace HB := aM (eD HB.out)
   refine start_ (n := 11) (S := fun w' => w'.cell? ⟨gb605, 0, none⟩ = some (.slice A0_0 l0_0.length c0_0) ∧ w'.cell? ⟨gb605, 1, none⟩ = some (.int .i64 a0_1)) (ds := []) (bm 11 0) (by kernel_rfl) rfl rfl ⟨(bC BK605.out 0).trans rfl, (bC BK605.out 1).trans rfl⟩ (fun hHeld => ?_); refine with_tabW impl_Plane_table.tab5 impl_Plane_table.bits5 (fun HT_ HW_ => ?_)
   generalize wr.drew = w11 at HO_4 BK605 HB hHeld ⊢
   refine yP 0 15 (bm 11 1) HT_ ?_
   refine yP 2 17 (bm 11 5) HT_ ?_
   refine yP 3 18 (bm 11 13) HT_ ?_
   refine yT2 1 16 (bm 11 15) HT_ HW_ hHeld ?_
   refine yO 4 19 (bm 11 31) HT_ (fun K hK => ?_)
   refine yG Try.func90 #[.int .i64 (l0_0.length : Int), .int .i64 x12_1] ?_
   with_reducible refine (impl_bitPoint.calls k1 (l0_0.length : Int) x12_1 t609 _ A8.out).mono ?_
   rintro e w12 ⟨v610, rfl, ho0, hb⟩
   refine ⟨_, rfl, ?_⟩
   have HO611 := aM (Kd.R_lower (Kd.R_new' ho0 (Kd.R_lt (xR HO_4.out))) (below_size (xG1 HB.out GE605.out)))
   replace HO_4 := aM (Kd.R_elder' (xR HO_4.out) (Kd.R_base ho0) hb)
   replace BK605 := yK BK605 hb
   replace HB := yS1 HB GE605 hb
   (try clear hb)
   (try clear hb2)
   (try clear hk)
   (try clear hi)
   (try clear ho0)
   obtain ⟨Ao13, co13, eo13⟩ := Kd.R_slice HO611.out
   (first | subst eo13 | (injection eo13 with f1_ f2_ f3_; have f4_ := f1_.symm; have f5_ := f3_.symm; clear f1_ f2_ f3_; subst f4_; subst f5_))
   refine hK.out _ _ ⟨(bC BK605.out 0).trans rfl, (bC BK605.out 1).trans rfl⟩ (fun hHeld => ?_)
   clear hK K
   refine norm_ (a' := ?_) ?_ ?_
   rotate_left
   ·
    show Act.put _ (some 19) _ = _
    simp only [Act.put, sA, sZ, sU, i64_w, i32_w]
    rfl
   refine yO 5 20 (bm 11 63) HT_ (fun K hK => ?_)
   refine yG Try.func138 #[.agg #[.slice A0_0 l0_0.length c0_0, .int .i64 a0_1], .slice Ao13 t609.length co13] ?_
   with_reducible refine (impl_Plane_side.calls k1 _ _ l0_0 a0_1 _ _ t609 t612 _ ?side1 ?side2 ?side3 ?side4 A9.out).mono ?_
   (case side1 => exact xC (Kd.C_below HR0_0.out HB.out))
   (case side2 => exact HC0_0.out)
   (case side3 => exact xC (Kd.R_reads' HO611.out).2.2)
   (case side4 => exact (Kd.R_reads' HO611.out).2.1)
   rintro e w14 ⟨rfl, hb⟩
   refine ⟨_, rfl, ?_⟩
   replace HO_4 := aM (Kd.R_below (xR HO_4.out) hb)
   replace HO611 := aM (Kd.R_below (xR HO611.out) hb)
   replace BK605 := yK BK605 hb
   replace HB := yS1 HB GE605 hb
   (try clear hb)
   (try clear hb2)
   (try clear hk)
   (try clear hi)
   refine hK.out _ _ ⟨(bC BK605.out 0).trans rfl, (bC BK605.out 1).trans rfl⟩ (fun hHeld => ?_)
   clear hK K
   refine norm_ (a' := ?_) ?_ ?_
   rotate_left
   ·
    show Act.put _ (some 20) _ = _
    simp only [Act.put, sA, sZ, sU, i64_w, i32_w]
    rfl
   refine yP 6 21 (bm 11 127) HT_ ?_
   refine yP 7 22 (bm 11 255) HT_ ?_
   refine yO 8 23 (bm 11 511) HT_ (fun K hK => ?_)
   refine value_ (w1 := ?_) (v := ?_) (by rfl) rfl ?_ ?_
   rotate_left 2
   ·
    go_simp
    constructor
    · rfl
    · rfl
   refine hK.out _ _ ⟨(bC (bA BK605.out _) 0).trans rfl, (bC (bA BK605.out _) 1).trans rfl⟩ (fun hHeld => ?_)
   clear hK K
   refine norm_ (a' := ?_) ?_ ?_
   rotate_left
   ·
    show Act.put _ (some 23) _ = _
    simp only [Act.put, sA, sZ, sU, i64_w, i32_w]
    rfl
   refine yO 9 24 (bm 11 1023) HT_ (fun K hK => ?_)
   refine Kd.R_append_step (Kd.int .i64) (w0 := w) w.heap.size (by rfl) (.tmp 15) (.tmp 23) 24 3 (.int .i64 0) 8 rfl Try.underlying24 info3 rfl (by decide) (by omega) u4 x4_1 (wrap64 (Int.tdiv (wrap64 (t612 + 1)) 2)) [.int .i64 (wrap64 (Int.tdiv (wrap64 (t612 + 1)) 2))] (fun k_ => some k_ ≠ (.slice Ao13 t609.length co13 : Value).ownBlock) (fun _ => False) rfl rfl ?aP (fun _ hk => hk.elim) ?aF ?aO ?aB ?aS ?aL ?_
   (case aP => exact rfl)
   (case aB => exact (xG1 HB.out GE605.out))
   (case aF => exact (fun k_ hk => Kd.fresh' (Kd.R_lt (xR HO611.out)) k_ hk))
   (case aO => exact (zR (rM HO_4.out (fun _ hk => hk.2))))
   (case aS => exact (below_size (xG1 HB.out GE605.out)))
   (case aL => have := LMc10.out; omega)
   intro v614 w15 ho hb hg hat
   rw [← Ny613.out] at ho
   replace BK605 := yR BK605 hg (Kd.R_ne HO_4.out BK605.out (by decide))
   replace HO611 := aM (Kd.R_after (ok := (fun _ => True)) (xR HO611.out) hg hat)
   replace HB := aM (hb)
   have HO615 := aM (ho)
   clear HO_4
   clear ho hb hg hat
   refine hK.out _ _ ⟨(bC BK605.out 0).trans rfl, (bC BK605.out 1).trans rfl⟩ (fun hHeld => ?_)
   clear hK K
   refine norm_ (a' := ?_) ?_ ?_
   rotate_left
   ·
    show Act.put _ (some 24) _ = _
    simp only [Act.put, sA, sZ, sU, i64_w, i32_w]
    rfl
   refine yP 10 4 (bm 11 2047) HT_ ?_
   refine done_ (done_of HT_.out (by kernel_rfl)) ?_
   try go_wp2
   go_roundg k1
   case measure => have := HK1.out; omega
   case rel => exact ⟨(y613), (wrap64 (x12_1 + 1)), yZ, H', ⟨by have := HK1.out; omega⟩, ⟨zR (rM HO615.out (fun _ hk => trivial))⟩, ⟨xB BK605.out⟩, ⟨xG1 HB.out GE605.out⟩⟩
end Go.Proofs.Ytmfmgnpefjmieaa.PFnThresholdTables
