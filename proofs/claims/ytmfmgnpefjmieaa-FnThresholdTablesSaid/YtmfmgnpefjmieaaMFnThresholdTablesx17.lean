-- Laid for this claim by a program of the session's own (wip/tool/myprint.py).
import Derived.Test.YtmfmgnpefjmieaaMFnThresholdTablesx0
namespace Go.Proofs.Ytmfmgnpefjmieaa.PFnThresholdTables
open Go.RowKit Go.Proofs.YtmfmgnpefjmieaaW.PrintWords Go.Proofs.YtmfmgnpefjmieaaW.PrintLast Go.Proofs.YtmfmgnpefjmieaaW.PrintMore
attribute [local go_sem] max2_int min2_int max_two min_two max_three min_three max_four min_four
set_option linter.unusedVariables false
set_option maxHeartbeats 8000000
set_option maxRecDepth 100000
set_option linter.unusedSimpArgs false
def impl_Sample_signed.l0 : Nat → Int → List Int → List Int → Int → Int → List (List Int) → List Int → Option (List Int)
  | 0, _, _, _, _, _, _, _ => none
  | k + 1, x1, x5, x18, x19, x20, x534000, x534001 => if x20 < x19 then (if 0 ≤ x20 then (if x20 < (x18.length : Int) then (if 0 ≤ x1 then (if x1 < (x534001.length : Int) then (if x5.length < 17592186044416 then (impl_Sample_signed.l0 k x1 (x5 ++ [wrap64 ((rd x18 x20) * (rd x534001 x1))]) x18 x19 (wrap64 (x20 + 1)) x534000 x534001) else (none)) else (none)) else (none)) else (none)) else (none)) else (some x5)
def impl_Sample_signed.f (k : Nat) (l0_0 : List (List Int)) (l0_1 : List Int) (a1 : Int) : Option (List Int) := if 0 ≤ a1 then (if a1 < (l0_1.length : Int) then (if a1 < (l0_0.length : Int) then (impl_Sample_signed.l0 k a1 (([rd l0_1 a1] : List Int)) (rd_L2 l0_0 a1) ((rd_L2 l0_0 a1).length : Int) 0 l0_0 l0_1) else (none)) else (none)) else (none)
theorem impl_Sample_signed.calls (k : Nat) (A0_0 : Option Addr) (c0_0 : Nat) (l0_0 : List (List Int)) (A0_1 : Option Addr) (c0_1 : Nat) (l0_1 : List Int) (a1 : Int) (r : List Int) (w : World) (hr0_0 : Kd.C (Kd.slice 3 (Kd.int .i64)) w A0_0 l0_0.length l0_0) (hc0_0 : l0_0.length ≤ c0_0) (hr0_1 : Kd.C (Kd.int .i64) w A0_1 l0_1.length l0_1) (hc0_1 : l0_1.length ≤ c0_1) (h : impl_Sample_signed.f k l0_0 l0_1 a1 = some r) :
    Calls Try.prog 156 #[.agg #[.slice A0_0 l0_0.length c0_0, .slice A0_1 l0_1.length c0_1], .int .i64 a1] w fun e w' => ∃ v0_ : Value, e = .returned (v0_) ∧ Kd.R (Kd.int .i64) 3 w' w.heap.size (fun _ => True) v0_ r ∧ Below w.heap.size w w' := by
 have hu46 := Try.underlying46
 have HR0_0 := aM hr0_0
 have HC0_0 := aM hc0_0
 clear hr0_0 hc0_0
 have HR0_1 := aM hr0_1
 have HC0_1 := aM hc0_1
 clear hr0_1 hc0_1
 have HB := aM (Below.refl w.heap.size w)
 have H : (if 0 ≤ a1 then (if a1 < (l0_1.length : Int) then (if a1 < (l0_0.length : Int) then (impl_Sample_signed.l0 k a1 (([rd l0_1 a1] : List Int)) (rd_L2 l0_0 a1) ((rd_L2 l0_0 a1).length : Int) 0 l0_0 l0_1) else (none)) else (none)) else (none)) = some r := h
 clear h
 obtain ⟨c3, c3b0, H⟩ | ⟨c3, -, H⟩ := yif H
 rotate_left
 · exact absurd H (by simp)
 clear c3
 obtain ⟨c4, c4b0, H⟩ | ⟨c4, -, H⟩ := yif H
 rotate_left
 · exact absurd H (by simp)
 clear c4
 obtain ⟨y535, hy535⟩ := yE (([rd l0_1 a1] : List Int) : List Int)
 replace H : (if a1 < (l0_0.length : Int) then (impl_Sample_signed.l0 k a1 y535 (rd_L2 l0_0 a1) ((rd_L2 l0_0 a1).length : Int) 0 l0_0 l0_1) else (none)) = some r := yI hy535 H
 have Ny535 := aM hy535
 clear hy535
 obtain ⟨c5, c5b0, H⟩ | ⟨c5, -, H⟩ := yif H
 rotate_left
 · exact absurd H (by simp)
 clear c5
 have H' := aM H
 clear H
 go_enter Try.func156, Try.ntmps156
 go_wp2_with (first | (refine yB 2 #[.slice A0_0 l0_0.length c0_0, .slice A0_1 l0_1.length c0_1] 46 ?_; intro gb533 hg w6 hbox hb; have BK533 := aM (hbox); have GW533 := yV0 hg HB; have GE533 := yV0 hg HB; replace HB := yS0 HB hb; clear hb hbox hg; obtain ⟨hcz7_0, hcz7_1, hfz7_0, hfz7_1⟩ := yD2 BK533; have p534 : 0 ≤ (a1 : Int) := yA; have q534 : a1 < (l0_1.length : Int) := yA; obtain ⟨ad534, e534, hx534_0⟩ := Kd.at_int HR0_1.out a1 p534 q534; cases e534; replace hx534_0 := yc HB hx534_0; replace p534 := eq_true p534; replace q534 := eq_true q534) | ((with_reducible refine gate_dst (N := 13) rfl ?_); refine Kd.R_lit (Kd.int .i64) _ 3 ?hg (N := 13) ?hd (xs := ([rd l0_1 a1] : List Int)) (inner := [.int .i64 (rd l0_1 a1)]) (ok := fun _ => True) (okp := fun _ => True) ?hr ?hp (fun _ hk => hk) trivial (Below.refl _ _) (Nat.le_refl _) (by simp) ?_; (case hd => rfl); (case hg => rfl); (case hr => first | (go_simp; done) | (go_simp; rfl)); (case hp => exact (Reps.one (show Kd.M (Kd.int .i64) _ _ _ (rd l0_1 a1) [.int .i64 (rd l0_1 a1)] from rfl) (Reps.none _ _))); intro v536 w8 ho9 hb hg_ hnew_; clear hg_ hnew_; (first | rw [← Ny535.out] at ho9 | (simp only [Int.reduceToNat] at ho9; rw [← Ny535.out] at ho9)); have HO537 := aM (Kd.R_lower ho9 (below_size (xG1 HB.out GE533.out))); replace BK533 := yK BK533 hb; replace HB := yS1 HB GE533 hb; clear hb ho9; obtain ⟨hcz10_0, hcz10_1, hfz10_0, hfz10_1⟩ := yD2 BK533; have p538 : 0 ≤ (a1 : Int) := yA; have q538 : a1 < (l0_0.length : Int) := yA; obtain ⟨ad538, A538_0, c538_0, e538, hx538_0, hl538_0, hi538_0⟩ := at_L2 HR0_0.out a1 p538 q538; cases e538; replace hx538_0 := yc HB hx538_0; have HR538_0 := aM hi538_0; have HC538_0 := aM hl538_0; clear hi538_0 hl538_0; replace p538 := eq_true p538; replace q538 := eq_true q538))
 go_loopg [5, 20] k (fun kq v5 v20 w' => ∃ (x5_1 : List Int) (x20_1 : Int), v20 = .int .i64 x20_1 ∧ Aside0 (impl_Sample_signed.l0 kq a1 x5_1 (rd_L2 l0_0 a1) ((rd_L2 l0_0 a1).length : Int) x20_1 l0_0 l0_1 = some r) ∧ Aside0 (kq ≤ k) ∧ Aside0 (Kd.R (Kd.int .i64) 3 w' w.heap.size (fun _ => True) v5 x5_1) ∧ Aside0 (w'.heap[gb533]? = some (.cells #[(.slice (some ad538) l0_0.length c0_0), (.slice (some ad534) l0_1.length c0_1)] 46 (0, 0))) ∧ Aside0 (Below w.heap.size w w'))
 case atStart => exact ⟨(y535), (0), yZ, H', ⟨Nat.le_refl _⟩, ⟨xR HO537.out⟩, ⟨xB BK533.out⟩, ⟨xG1 HB.out GE533.out⟩⟩
 case round =>
  clear H'
  try clear c3
  try clear c3b0
  try clear c4
  try clear c4b0
  try clear c5
  try clear c5b0
  try clear hcz10_0
  try clear hcz10_1
  try clear hcz7_0
  try clear hcz7_1
  try clear hfz10_0
  try clear hfz10_1
  try clear hfz7_0
  try clear hfz7_1
  try clear hx534_0
  try clear hx538_0
  try clear p534
  try clear p538
  try clear q534
  try clear q538
  obtain ⟨x5_1, x20_1, rfl, HA, HK1, HO_5, BK533, HB⟩ := hrel
  cases gk with
  | zero => exact absurd HA.out (by simp [impl_Sample_signed.l0])
  | succ k1 =>
   have H := HA.out
   clear HA
   simp only [impl_Sample_signed.l0] at H
   obtain ⟨-, c11b0, H⟩ | ⟨-, c11b0, H⟩ := yif H
   rotate_left
   ·
    obtain rfl := Option.some.inj H
    go_wp2
    go_ret
    exact ⟨_, yF, xR HO_5.out, xG1 HB.out GE533.out⟩
   obtain ⟨-, c12b0, H⟩ | ⟨c12, -, H⟩ := yif H
   rotate_left
   · exact absurd H (by simp)
   obtain ⟨-, c13b0, H⟩ | ⟨c13, -, H⟩ := yif H
   rotate_left
   · exact absurd H (by simp)
   obtain ⟨-, c14b0, H⟩ | ⟨c14, -, H⟩ := yif H
   rotate_left
   · exact absurd H (by simp)
   obtain ⟨-, c15b0, H⟩ | ⟨c15, -, H⟩ := yif H
   rotate_left
   · exact absurd H (by simp)
   obtain ⟨c16, -, H⟩ | ⟨c16, -, H⟩ := yif H
   rotate_left
   · exact absurd H (by simp)
   have LMc16 := aM c16
   clear c16
   obtain ⟨y541, hy541⟩ := yE (x5_1 ++ [wrap64 ((rd (rd_L2 l0_0 a1) x20_1) * (rd l0_1 a1))] : List Int)
   replace H : (impl_Sample_signed.l0 k1 a1 y541 (rd_L2 l0_0 a1) ((rd_L2 l0_0 a1).length : Int) (wrap64 (x20_1 + 1)) l0_0 l0_1) = some r := yI hy541 H
   have Ny541 := aM hy541
   clear hy541
   have H' := aM H
   clear H
   obtain ⟨ad539, e539, hx539_0, p539, q539⟩ := yi HR538_0.out x20_1
   cases e539
   replace hx539_0 := yc HB hx539_0
   have hcz17_0 : wr.cell? ⟨gb533, 0, none⟩ = some (.slice (some ad538) l0_0.length c0_0) := (bC BK533.out 0).trans rfl
   have hcz17_1 : wr.cell? ⟨gb533, 1, none⟩ = some (.slice (some ad534) l0_1.length c0_1) := (bC BK533.out 1).trans rfl
   have hfz17_0 := bF BK533.out 0
   have hfz17_1 := bF BK533.out 1
   obtain ⟨ad540, e540, hx540_0, p540, q540⟩ := yi HR0_1.out a1
   obtain rfl : ad534 = ad540 := (by injection e540)
   replace hx540_0 := yc HB hx540_0
   go_wp2_with (first | ((with_reducible refine gate_builtin (b := .append) (xs := #[.tmp 24, .tmp 32]) rfl ?_); at_builtin; refine Kd.R_append (Kd.int .i64) (w0 := w) w.heap.size rfl (.tmp 24) (.tmp 32) 24 3 (.int .i64 0) 8 rfl Try.underlying24 info3 rfl (by decide) (by omega) u5 x5_1 (wrap64 ((rd (rd_L2 l0_0 a1) x20_1) * (rd l0_1 a1))) [.int .i64 (wrap64 ((rd (rd_L2 l0_0 a1) x20_1) * (rd l0_1 a1)))] (fun _ => True) (fun _ => False) rfl rfl ?aP (fun _ hk => hk.elim) ?aF ?aO ?aB ?aS ?aL ?_; (case aP => exact rfl); (case aB => exact (xG1 HB.out GE533.out)); (case aF => exact (fun _ _ => trivial)); (case aO => exact (xR HO_5.out)); (case aS => exact (below_size (xG1 HB.out GE533.out))); (case aL => have := LMc16.out; omega); intro v542 w18 ho hb hg hat; rw [← Ny541.out] at ho; replace BK533 := yR BK533 hg (Kd.R_ne HO_5.out BK533.out (by decide)); replace HB := aM (hb); have HO543 := aM (ho); clear HO_5; clear ho hb hg hat))
   go_roundg k1
   case measure => have := HK1.out; omega
   case rel => exact ⟨(y541), (wrap64 (x20_1 + 1)), yZ, H', ⟨by have := HK1.out; omega⟩, ⟨xR HO543.out⟩, ⟨xB BK533.out⟩, ⟨xG1 HB.out GE533.out⟩⟩
mutual
def impl_divisor.l0 : Nat → Int → List Int → Int → Int → Option (Int)
  | 0, _, _, _, _ => none
  | k + 1, x3, x6, x7, x8 => if x8 < x7 then (if 0 ≤ x8 then (if x8 < (x6.length : Int) then (impl_divisor.l1 k x3 (rd x6 x8) x6 x7 x8) else (none)) else (none)) else (some (mx x3 (wrap64 (-x3))))
def impl_divisor.l1 : Nat → Int → Int → List Int → Int → Int → Option (Int)
  | 0, _, _, _, _, _ => none
  | k + 1, x3, x5, x6, x7, x8 => if x5 = 0 then (impl_divisor.l0 k x3 x6 x7 (wrap64 (x8 + 1))) else (impl_divisor.l1 k x5 (Int.tmod x3 x5) x6 x7 x8)
end
def impl_divisor.f (k : Nat) (l0 : List Int) : Option (Int) := impl_divisor.l0 k 0 l0 (l0.length : Int) 0
theorem impl_divisor.calls (k : Nat) (A0 : Option Addr) (c0 : Nat) (l0 : List Int) (r : Int) (w : World) (hr0 : Kd.C (Kd.int .i64) w A0 l0.length l0) (hc0 : l0.length ≤ c0) (h : impl_divisor.f k l0 = some r) :
    Calls Try.prog 167 #[.slice A0 l0.length c0] w fun e w' => e = .returned (.int .i64 r) ∧ Below w.heap.size w w' := by
 have HR0 := aM hr0
 have HC0 := aM hc0
 clear hr0 hc0
 have HB := aM (Below.refl w.heap.size w)
 have H : (impl_divisor.l0 k 0 l0 (l0.length : Int) 0) = some r := h
 clear h
 have H' := aM H
 clear H
 go_enter Try.func167, Try.ntmps167
 go_wp2
 repeat (go_quiet (fail); try go_wp2)
 go_loopg [3, 8] k (fun kq v3 v8 w' => ∃ (x3_1 : Int) (x8_1 : Int), v3 = .int .i64 x3_1 ∧ v8 = .int .i64 x8_1 ∧ Aside0 (impl_divisor.l0 kq x3_1 l0 (l0.length : Int) x8_1 = some r) ∧ Aside0 (kq ≤ k) ∧ Aside0 (Below w.heap.size w w'))
 case atStart => exact ⟨(0), (0), yZ, yZ, H', ⟨Nat.le_refl _⟩, ⟨xH HB.out⟩⟩
 case round =>
  clear H'
  obtain ⟨x3_1, x8_1, rfl, rfl, HA, HK1, HB⟩ := hrel
  cases gk with
  | zero => exact absurd HA.out (by simp [impl_divisor.l0])
  | succ k1 =>
   have H := HA.out
   clear HA
   simp only [impl_divisor.l0] at H
   obtain ⟨c2, c2b0, H⟩ | ⟨-, c2b0, H⟩ := yif H
   rotate_left
   ·
    obtain ⟨ji6, hji6⟩ := yJ ((mx x3_1 (wrap64 (-x3_1))))
    (first | rw [hji6] at H | simp only [hji6] at H)
    have hji6_ : (if x3_1 < (wrap64 (-x3_1)) then (wrap64 (-x3_1)) else x3_1) = ji6 := hji6
    obtain rfl := Option.some.inj H
    go_wp2
    repeat (go_quiet (fail); try go_wp2)
    go_ret
    exact ⟨by first | rfl | (simp [errW_none, errW_some] <;> rfl) | (simp only [← hji6]; first | rfl | (simp [errW_none, errW_some] <;> rfl)) | (simp [*, errW_none, errW_some] <;> rfl), xH HB.out⟩
   clear c2
   obtain ⟨c3, c3b0, H⟩ | ⟨c3, -, H⟩ := yif H
   rotate_left
   · exact absurd H (by simp)
   clear c3
   obtain ⟨c4, c4b0, H⟩ | ⟨c4, -, H⟩ := yif H
   rotate_left
   · exact absurd H (by simp)
   clear c4
   have H' := aM H
   clear H
   obtain ⟨ad544, e544, hx544_0, p544, q544⟩ := yi HR0.out x8_1
   cases e544
   replace hx544_0 := yc HB hx544_0
   go_wp2
   repeat (go_quiet (fail); try go_wp2)
   go_loopg [3, 5] k1 (fun kq v3 v5 w' => ∃ (x3_2 : Int) (x5_2 : Int), v3 = .int .i64 x3_2 ∧ v5 = .int .i64 x5_2 ∧ Aside0 (impl_divisor.l1 kq x3_2 x5_2 l0 (l0.length : Int) x8_1 = some r) ∧ Aside0 (kq ≤ k1) ∧ Aside0 (Below w.heap.size w w'))
   case atStart => exact ⟨(x3_1), (rd l0 x8_1), yZ, yZ, H', ⟨Nat.le_refl _⟩, ⟨xH HB.out⟩⟩
   case round =>
    clear H'
    try clear c2
    try clear c2b0
    try clear c3
    try clear c3b0
    try clear c4
    try clear c4b0
    try clear hx544_0
    try clear p544
    try clear q544
    obtain ⟨x3_2, x5_2, rfl, rfl, HA, HK2, HB⟩ := hrel
    cases gk with
    | zero => exact absurd HA.out (by simp [impl_divisor.l1])
    | succ k2 =>
     have H := HA.out
     clear HA
     simp only [impl_divisor.l1] at H
     obtain ⟨c5, -, H⟩ | ⟨c5, -, H⟩ := yif H
     rotate_left
     ·
      have c5b0 : (x5_2 == 0) = false := beq_eq_false_iff_ne.mpr c5
      have c5b1 : (x5_2 != 0) = true := bne_iff_ne.mpr c5
      have H' := aM H
      clear H
      go_wp2
      repeat (go_quiet (fail); try go_wp2)
      go_roundg k2
      case measure => have := HK1.out; have := HK2.out; omega
      case rel => exact ⟨(x5_2), (Int.tmod x3_2 x5_2), yZ, yZ, H', ⟨by have := HK1.out; have := HK2.out; omega⟩, ⟨xH HB.out⟩⟩
     have c5b0 : (x5_2 == 0) = true := beq_iff_eq.mpr c5
     have c5b1 : (x5_2 != 0) = false := bne_eq_false_iff_eq.mpr c5
     clear c5
     have H' := aM H
     clear H
     go_wp2
     repeat (go_quiet (fail); try go_wp2)
     go_roundg k2
     case measure => have := HK1.out; have := HK2.out; omega
     case rel => exact ⟨(x3_2), (wrap64 (x8_1 + 1)), yZ, yZ, H', ⟨by have := HK1.out; have := HK2.out; omega⟩, ⟨xH HB.out⟩⟩
def impl_shortened.l0 : Nat → List Int → Int → Int → Int → Option (List Int)
  | 0, _, _, _, _ => none
  | k + 1, x0, x2, x9, x10 => if x10 < x9 then (if 0 ≤ x10 then (if x10 < (x0.length : Int) then (if x2 = 0 then (none) else (impl_shortened.l0 k (x0.set (x10 : Int).toNat (wrap64 (Int.tdiv (rd x0 x10) x2))) x2 x9 (wrap64 (x10 + 1)))) else (none)) else (none)) else (some x0)
def impl_shortened.f (k : Nat) (l0 : List Int) : Option (List Int) := (impl_divisor.f k l0).bind fun t545 => (if t545 > 1 then (impl_shortened.l0 k l0 t545 (l0.length : Int) 0) else (some l0))
theorem impl_shortened.calls (k : Nat) (P0_ : Nat → Prop) (u9000_ : Value) (l0 : List Int) (r : List Int) (w0 w : World) (hB : Below w0.heap.size w0 w) (ho0 : Kd.R (Kd.int .i64) 3 w w0.heap.size P0_ u9000_ l0) (h : impl_shortened.f k l0 = some r) :
    Calls Try.prog 168 #[u9000_] w fun e w' => e = .returned (.tuple #[]) ∧ Kd.R (Kd.int .i64) 3 w' w0.heap.size (fun k_ => (P0_ k_ ∨ w.heap.size ≤ k_)) u9000_ r ∧ Below w0.heap.size w0 w' ∧ Kept w w' (fun k_ => P0_ k_) := by
 have HO0 := aM (show Kd.R (Kd.int .i64) 3 w w0.heap.size (fun k_ => (P0_ k_ ∨ w.heap.size ≤ k_)) u9000_ l0 from rM ho0 (fun k_ hk => (.inl hk)))
 have HK := aM (Kept.refl w (fun k_ => P0_ k_))
 have HW0 := aM hB.size
 have HB := aM hB
 clear hB
 have H : ((impl_divisor.f k l0).bind fun t545 => (if t545 > 1 then (impl_shortened.l0 k l0 t545 (l0.length : Int) 0) else (some l0))) = some r := h
 clear h
 replace H := oB.mp H
 obtain ⟨t545, A20, H⟩ := H
 have A2 := aM A20
 clear A20
 obtain ⟨c3, -, H⟩ | ⟨c3, -, H⟩ := yif H
 rotate_left
 ·
  have c3b0 : decide (1 < t545) = false := decide_eq_false c3
  clear c3
  obtain rfl := Option.some.inj H
  obtain ⟨Ao13, co13, eo13⟩ := Kd.R_slice HO0.out
  subst eo13
  go_enter Try.func168, Try.ntmps168
  go_wp2_with (first | (refine yL 5 Try.func167 #[.slice Ao13 l0.length co13] ?_; (with_reducible refine (impl_divisor.calls k _ _ l0 t545 _ (xC (Kd.R_reads' HO0.out).2.2) ((Kd.R_reads' HO0.out).2.1) A2.out).mono ?_); rintro e w14 ⟨rfl, hb⟩; refine ⟨_, rfl, ?_⟩; replace HO0 := aM (Kd.R_below (xR HO0.out) hb); replace HK := aM (Kept.below (S := (fun k_ => P0_ k_)) (by repeat (first | (with_reducible first | exact HK.out | apply Kept.alloc | apply Kept.drewN | apply Kept.drew) | exact HK.out)) hb); replace HB := yS0 HB hb; (try clear hb)))
  first | go_end0 | ((try simp only [Exit.inBlock, Exit.then]); refine bodyPost_ret (results_none rfl _ _ _) rfl ?_)
  exact ⟨yF, xR HO0.out, xH HB.out, by repeat (first | (with_reducible first | exact HK.out | apply Kept.alloc | apply Kept.drewN | apply Kept.drew) | exact HK.out)⟩
 have c3b0 : decide (1 < t545) = true := decide_eq_true c3
 clear c3
 have H' := aM H
 clear H
 obtain ⟨Ao4, co4, eo4⟩ := Kd.R_slice HO0.out
 subst eo4
 go_enter Try.func168, Try.ntmps168
 go_wp2_with (first | (refine yL 5 Try.func167 #[.slice Ao4 l0.length co4] ?_; (with_reducible refine (impl_divisor.calls k _ _ l0 t545 _ (xC (Kd.R_reads' HO0.out).2.2) ((Kd.R_reads' HO0.out).2.1) A2.out).mono ?_); rintro e w5 ⟨rfl, hb⟩; refine ⟨_, rfl, ?_⟩; replace HO0 := aM (Kd.R_below (xR HO0.out) hb); replace HK := aM (Kept.below (S := (fun k_ => P0_ k_)) (by repeat (first | (with_reducible first | exact HK.out | apply Kept.alloc | apply Kept.drewN | apply Kept.drew) | exact HK.out)) hb); replace HB := yS0 HB hb; (try clear hb)))
 go_loopg [10] k (fun kq v10 w' => ∃ (x0_1 : List Int) (x10_1 : Int), v10 = .int .i64 x10_1 ∧ Aside0 (impl_shortened.l0 kq x0_1 t545 (l0.length : Int) x10_1 = some r) ∧ Aside0 (kq ≤ k) ∧ Aside0 (Kd.R (Kd.int .i64) 3 w' w0.heap.size (fun k_ => (P0_ k_ ∨ w.heap.size ≤ k_)) (.slice Ao4 l0.length co4) x0_1) ∧ Aside0 (Kept w w' (fun k_ => P0_ k_)) ∧ Aside0 (Below w0.heap.size w0 w'))
 case atStart => exact ⟨(l0), (0), yZ, H', ⟨Nat.le_refl _⟩, ⟨xR HO0.out⟩, ⟨by repeat (first | (with_reducible first | exact HK.out | apply Kept.alloc | apply Kept.drewN | apply Kept.drew) | exact HK.out)⟩, ⟨xH HB.out⟩⟩
 case round =>
  clear H'
  try clear c3
  try clear c3b0
  obtain ⟨x0_1, x10_1, rfl, HA, HK1, HO_0, HK, HB⟩ := hrel
  have hl0_1 := (Kd.R_reads' HO_0.out).1
  rw [hl0_1] at HO_0
  (try simp only [hl0_1])
  cases gk with
  | zero => exact absurd HA.out (by simp [impl_shortened.l0])
  | succ k1 =>
   have H := HA.out
   clear HA
   simp only [impl_shortened.l0] at H
   obtain ⟨-, c6b0, H⟩ | ⟨-, c6b0, H⟩ := yif H
   rotate_left
   ·
    have c6b9 := c6b0
    (try simp only [hl0_1] at c6b9)
    obtain rfl := Option.some.inj H
    go_wp2
    first | go_end0 | ((try simp only [Exit.inBlock, Exit.then]); refine bodyPost_ret (results_none rfl _ _ _) rfl ?_)
    exact ⟨yF, (by first | exact (xR HO_0.out) | (simp only [hl0_1]; exact (xR HO_0.out))), xH HB.out, by repeat (first | (with_reducible first | exact HK.out | apply Kept.alloc | apply Kept.drewN | apply Kept.drew) | exact HK.out)⟩
   obtain ⟨-, c7b0, H⟩ | ⟨c7, -, H⟩ := yif H
   rotate_left
   · exact absurd H (by simp)
   obtain ⟨-, c8b0, H⟩ | ⟨c8, -, H⟩ := yif H
   rotate_left
   · exact absurd H (by simp)
   obtain ⟨c9, -, H⟩ | ⟨c9, -, H⟩ := yif H
   · exact absurd H (by simp)
   have c9b0 : (t545 == 0) = false := beq_eq_false_iff_ne.mpr c9
   have c9b1 : (t545 != 0) = true := bne_iff_ne.mpr c9
   obtain ⟨y547, hy547⟩ := yE (x0_1.set (x10_1 : Int).toNat (wrap64 (Int.tdiv (rd x0_1 x10_1) t545)) : List Int)
   replace H : (impl_shortened.l0 k1 y547 t545 (l0.length : Int) (wrap64 (x10_1 + 1))) = some r := yI hy547 H
   have Ny547 := aM hy547
   clear hy547
   have H' := aM H
   clear H
   obtain ⟨ad546, e546, hx546_0, p546, q546⟩ := yi (Kd.R_reads' HO_0.out).2.2 x10_1
   cases e546
   have p10 : 0 ≤ (x10_1 : Int) := yA
   have q10 : (x10_1 : Int) < ((x0_1.length : Int) : Int) := yA
   obtain ⟨go10, co10, eo10, gb10, gl10, cl10, HG10⟩ := Kd.R_form HO_0.out (by omega)
   (first | cases eo10 | (injection eo10 with ea_ en_ ec_; (first | subst ea_ | (injection ea_ with ea_; subst ea_)); subst ec_; clear en_))
   have GB10 := aM gb10
   have GG10 := aM HG10
   clear gb10 gl10 HG10
   have HMgo10 := aM (show (P0_ go10 ∨ w.heap.size ≤ go10) from (HO_0.out.1 _ rfl))
   (first | simp only [add_plain] at hx546_0 | skip)
   obtain ⟨hx10_0, hf10_0⟩ := Kd.R_celln 0 HO_0.out (x10_1 : Int) p10 q10
   replace p10 := eq_true p10
   replace q10 := eq_true q10
   have HP11 := Kd.R_putg HO_0.out (x10_1 : Int) (wrap64 (Int.tdiv (rd x0_1 x10_1) t545))
   go_wp2_with (first | ((with_reducible refine gate_store (t := 3) (p := 19) rfl ?_); refine store_event (t := 3) (p := 19) (v := ?vo_w12) (w1 := (wr.setCell ⟨go10, (x10_1 : Int).toNat, none⟩ (.int .i64 (wrap64 (Int.tdiv (rd x0_1 x10_1) t545))))) ?hg ?ho ?hn ?hr ?_; (case ho => rfl); (case hg => rfl); (case hn => rfl); (case hr => first | (go_simp; done) | (go_simp; rfl)); intro w12 hw; have hg : wr.grownBy w12 (some go10) := (by rw [hw]; exact HP11.2); have hp_ : Kd.R (Kd.int .i64) 3 w12 w0.heap.size (fun k_ => (P0_ k_ ∨ w.heap.size ≤ k_)) (.slice (some ⟨go10, 0, none⟩) x0_1.length co4) y547 := (by rw [hw, Ny547.out]; exact HP11.1); clear HP11; replace HB := aM ((by rw [hw]; exact eS (HB.out) GB10.out : Below w0.heap.size w0 w12)); replace HK := aM (Kept.of_grown (S := (fun k_ => P0_ k_)) hg (by repeat (first | (with_reducible first | exact HK.out | apply Kept.alloc | apply Kept.drewN | apply Kept.drew) | exact HK.out)) (fun k_ e_ => (HO_0.out.1 k_ e_))); replace HO_0 := aM (hp_); clear hg hw hp_))
   (try simp only [← hl0_1])
   go_roundg k1
   case measure => have := HK1.out; omega
   case rel => exact ⟨(y547), (wrap64 (x10_1 + 1)), yZ, H', ⟨by have := HK1.out; omega⟩, ⟨by (try simp only [hl0_1]); (with_reducible repeat (first | apply rA | apply rN | apply rD)); exact HO_0.out⟩, ⟨by repeat (first | (with_reducible first | exact HK.out | apply Kept.alloc | apply Kept.drewN | apply Kept.drew) | exact HK.out)⟩, ⟨xH HB.out⟩⟩
end Go.Proofs.Ytmfmgnpefjmieaa.PFnThresholdTables
