-- Laid for this claim by a program of the session's own (wip/tool/myprint.py).
import Derived.Test.YtgidnmpppbkamaaMFnExactPlaneClassx0
import Derived.Test.YtgidnmpppbkamaaMFnExactPlaneClassx1
import Derived.Test.YtgidnmpppbkamaaMFnExactPlaneClassx10
import Derived.Test.YtgidnmpppbkamaaMFnExactPlaneClassx16
namespace Go.Proofs.Ytgidnmpppbkamaa.PFnExactPlaneClass
open Go.RowKit Go.Proofs.YtgidnmpppbkamaaW.PrintWords Go.Proofs.YtgidnmpppbkamaaW.PrintLast Go.Proofs.YtgidnmpppbkamaaW.PrintMore
attribute [local go_sem] max2_int min2_int max_two min_two max_three min_three max_four min_four
set_option linter.unusedVariables false
set_option maxHeartbeats 8000000
set_option maxRecDepth 100000
set_option linter.unusedSimpArgs false
def laws_markIntS.l0 : Nat → List Int → Int → Int → Option (Int × List Int)
 | 0, _, _, _ => none
 | k + 1, x0, x1, x5 => if x5 < (x0.length : Int) then (if 0 ≤ x5 then (laws_markIntS.l0 k (x0.set (x5 : Int).toNat x1) (wrap64 (x1 + 1)) (wrap64 (x5 + 1))) else (none)) else (some (x1, x0))
def laws_markIntS.f (k : Nat) (l0 : List Int) (a1 : Int) : Option (Int × List Int) := laws_markIntS.l0 k l0 a1 0
theorem laws_markIntS.calls (k : Nat) (P0_ : Nat → Prop) (u9000_ : Value) (l0 : List Int) (a1 : Int) (r1 : Int) (r2 : List Int) (w0 w : World) (hB : Below w0.heap.size w0 w) (ho0 : Kd.R (Kd.int .i64) 3 w w0.heap.size P0_ u9000_ l0) (h : laws_markIntS.f k l0 a1 = some (r1, r2)) :
  Calls Try.prog 13 #[u9000_, .int .i64 a1] w fun e w' => e = .returned (.int .i64 r1) ∧ Kd.R (Kd.int .i64) 3 w' w0.heap.size (fun k_ => (P0_ k_ ∨ w.heap.size ≤ k_)) u9000_ r2 ∧ Below w0.heap.size w0 w' ∧ Kept w w' (fun k_ => P0_ k_) := by
 have HO0 := aM (show Kd.R (Kd.int .i64) 3 w w0.heap.size (fun k_ => (P0_ k_ ∨ w.heap.size ≤ k_)) u9000_ l0 from rM ho0 (fun k_ hk => (.inl hk)))
 have HK := aM (Kept.refl w (fun k_ => P0_ k_))
 have HW0 := aM hB.size
 have HB := aM hB
 clear hB
 have H : (laws_markIntS.l0 k l0 a1 0) = some (r1, r2) := h
 clear h
 have H' := aM H
 clear H
 go_enter Try.func13, Try.ntmps13
 go_wp2
 go_loopg [1, 5] k (fun kq v1 v5 w' => ∃ (x0_1 : List Int) (x1_1 : Int) (x5_1 : Int), v1 = .int .i64 x1_1 ∧ v5 = .int .i64 x5_1 ∧ Aside0 (laws_markIntS.l0 kq x0_1 x1_1 x5_1 = some (r1, r2)) ∧ Aside0 (kq ≤ k) ∧ Aside0 (Kd.R (Kd.int .i64) 3 w' w0.heap.size (fun k_ => (P0_ k_ ∨ w.heap.size ≤ k_)) u9000_ x0_1) ∧ Aside0 (Kept w w' (fun k_ => P0_ k_)) ∧ Aside0 (Below w0.heap.size w0 w'))
 case atStart => exact ⟨(l0), (a1), (0), yZ, yZ, H', ⟨Nat.le_refl _⟩, ⟨xR HO0.out⟩, ⟨by repeat (first | (with_reducible first | exact HK.out | apply Kept.alloc | apply Kept.drewN | apply Kept.drew) | exact HK.out)⟩, ⟨xH HB.out⟩⟩
 case round =>
  clear H'
  try clear c1
  obtain ⟨x0_1, x1_1, x5_1, rfl, rfl, HA, HK1, HO_0, HK, HB⟩ := hrel
  cases gk with
  | zero => exact absurd HA.out (by simp [laws_markIntS.l0])
  | succ k1 =>
   have H := HA.out
   clear HA
   simp only [laws_markIntS.l0] at H
   by_cases c3 : x5_1 < (x0_1.length : Int)
   rotate_left
   ·
    rw [if_neg c3] at H
    have c3b0 := decide_eq_false c3
    clear c3
    simp only [Option.some.injEq, Prod.mk.injEq] at H
    obtain ⟨rfl, rfl⟩ := H
    obtain ⟨Ao9, co9, eo9⟩ := Kd.R_slice HO_0.out
    subst eo9
    go_wp2
    go_ret
    exact ⟨yF, xR HO_0.out, by repeat (first | (with_reducible first | exact HB.out | apply eA | apply eN | apply eD) | exact HB.out), by repeat (first | (with_reducible first | exact HK.out | apply Kept.alloc | apply Kept.drewN | apply Kept.drew) | exact HK.out)⟩
   rw [if_pos c3] at H
   have c3b0 := decide_eq_true c3
   clear c3
   by_cases c4 : 0 ≤ x5_1
   rotate_left
   ·
    rw [if_neg c4] at H
    exact absurd H (by simp)
   rw [if_pos c4] at H
   have c4b0 := decide_eq_true c4
   clear c4
   obtain ⟨y434, hy434⟩ := yE (x0_1.set (x5_1 : Int).toNat x1_1 : List Int)
   replace H : (laws_markIntS.l0 k1 y434 (wrap64 (x1_1 + 1)) (wrap64 (x5_1 + 1))) = some (r1, r2) := yI hy434 H
   have Ny434 := aM hy434
   clear hy434
   have H' := aM H
   clear H
   obtain ⟨Ao6, co6, eo6⟩ := Kd.R_slice HO_0.out
   subst eo6
   have p5 : 0 ≤ (x5_1 : Int) := yA
   have q5 : (x5_1 : Int) < ((x0_1.length : Int) : Int) := yA
   obtain ⟨go5, co5, eo5, gb5, gl5, cl5, HG5⟩ := Kd.R_form HO_0.out (by omega)
   (first | cases eo5 | (injection eo5 with ea_ en_ ec_; (first | subst ea_ | (injection ea_ with ea_; subst ea_)); subst ec_; clear en_))
   have GB5 := aM gb5
   have GG5 := aM HG5
   clear gb5 gl5 HG5
   have HMgo5 := aM (show (P0_ go5 ∨ w.heap.size ≤ go5) from (HO_0.out.1 _ rfl))
   obtain ⟨hx5_0, hf5_0⟩ := Kd.R_celln 0 HO_0.out (x5_1 : Int) p5 q5
   replace p5 := eq_true p5
   replace q5 := eq_true q5
   have HP7 := Kd.R_putg HO_0.out (x5_1 : Int) x1_1
   go_wp2_with (first | ((with_reducible refine gate_store (t := 3) (p := 15) rfl ?_); refine store_event (t := 3) (p := 15) (v := ?vo_w8) (w1 := (wr.setCell ⟨go5, (x5_1 : Int).toNat, none⟩ (.int .i64 x1_1))) ?hg ?ho ?hn ?hr ?_; (case ho => rfl); (case hg => rfl); (case hn => rfl); (case hr => first | (go_simp; done) | (go_simp; rfl)); intro w8 hw; have hg : wr.grownBy w8 (some go5) := (by rw [hw]; exact HP7.2); have hp_ : Kd.R (Kd.int .i64) 3 w8 w0.heap.size (fun k_ => (P0_ k_ ∨ w.heap.size ≤ k_)) (.slice (some ⟨go5, 0, none⟩) x0_1.length co6) y434 := (by rw [hw, Ny434.out]; exact HP7.1); clear HP7; replace HB := aM ((by rw [hw]; exact eS (HB.out) GB5.out : Below w0.heap.size w0 w8)); replace HK := aM (Kept.of_grown (S := (fun k_ => P0_ k_)) hg (by repeat (first | (with_reducible first | exact HK.out | apply Kept.alloc | apply Kept.drewN | apply Kept.drew) | exact HK.out)) (fun k_ e_ => (HO_0.out.1 k_ e_))); replace HO_0 := aM (hp_); clear hg hw hp_))
   go_roundg k1
   case measure => have := HK1.out; omega
   case rel => exact ⟨(y434), (wrap64 (x1_1 + 1)), (wrap64 (x5_1 + 1)), yZ, yZ, H', ⟨by have := HK1.out; omega⟩, ⟨xR HO_0.out⟩, ⟨by repeat (first | (with_reducible first | exact HK.out | apply Kept.alloc | apply Kept.drewN | apply Kept.drew) | exact HK.out)⟩, ⟨xH HB.out⟩⟩
def laws_markIntSS.g (k : Nat) : List (List Int) → Int → Option (Int × List (List Int))
 | [], a => some (a, [])
 | r :: l, a => (laws_markIntS.f k r a).bind fun b => (laws_markIntSS.g k l b.1).bind fun c => some (c.1, b.2 :: c.2)
def laws_markIntSS.f (k : Nat) (l : List (List Int)) (a : Int) : Option (Int × List (List Int)) := if l.length < 4611686018427387904 then laws_markIntSS.g k l a else none
theorem laws_markIntSS.set_take (l : List (List Int)) (j : Nat) (x : List Int) (h : j < l.length) : (l.set j x).take (j + 1) = l.take j ++ [x] := by
 rw [List.take_succ_eq_append_getElem (by rw [List.length_set]; exact h), List.getElem_set_self]
 congr 1
 apply List.ext_getElem?
 intro n
 rw [List.getElem?_take, List.getElem?_take]
 by_cases e : n < j
 ·
  rw [if_pos e, if_pos e, List.getElem?_set_ne (by omega)]
 ·
  rw [if_neg e, if_neg e]
theorem laws_markIntSS.calls (k : Nat) (P0_ : Nat → Prop) (u9000_ : Value) (l0 : List (List Int)) (a1 : Int) (r : Int) (r2 : List (List Int)) (w0 w : World) (hB : Below w0.heap.size w0 w) (ho0 : Kd.S (Kd.slice 3 (Kd.int .i64)) 22 w w0.heap.size P0_ u9000_ l0) (h : laws_markIntSS.f k l0 a1 = some (r, r2)) :
  Calls Try.prog 20 #[u9000_, .int .i64 a1] w fun e w' => e = .returned (.int .i64 r) ∧ Kd.S (Kd.slice 3 (Kd.int .i64)) 22 w' w0.heap.size P0_ u9000_ r2 ∧ Below w0.heap.size w0 w' ∧ Kept w w' (fun k_ => P0_ k_) := by
 unfold laws_markIntSS.f at h
 by_cases c : l0.length < 4611686018427387904
 ·
  rw [if_pos c] at h
  obtain ⟨A, cp, rfl, hlc, hC⟩ := Kd.S_reads ho0
  have HS := aM ho0
  have HB := aM hB
  have HG := aM h
  have HL := aM c
  clear ho0 hB h c hlc hC
  go_enter Try.func20, Try.ntmps20
  go_wp2
  go_loopw [1, 5] (fun v1 v5 w' => ∃ (kv : Int) (j : Nat) (l tl : List (List Int)), v1 = .int .i64 kv ∧ v5 = .int .i64 (j : Int) ∧ Aside0 (j ≤ l0.length) ∧ Aside0 (l.length = l0.length) ∧ Aside0 (laws_markIntSS.g k (l.drop j) kv = some (r, tl)) ∧ Aside0 (l.take j ++ tl = r2) ∧ Aside0 (Kd.S (Kd.slice 3 (Kd.int .i64)) 22 w' w0.heap.size P0_ (.slice A l0.length cp) l) ∧ Aside0 (Below w0.heap.size w0 w') ∧ Aside0 (Kept w w' (fun k_ => P0_ k_))) (fun _ v5 _ => l0.length - (intOf v5).toNat)
  case atStart => exact ⟨a1, 0, l0, r2, rfl, rfl, ⟨Nat.zero_le _⟩, ⟨rfl⟩, HG, ⟨rfl⟩, HS, HB, ⟨Kept.refl w _⟩⟩
  case round =>
   obtain ⟨kv, j, l, tl, rfl, rfl, HJ, HN, HG2, HT2, HS2, HB2, HK2⟩ := hrel
   by_cases c : j < l0.length
   ·
    have c0 : decide ((j : Int) < (l0.length : Int)) = true := decide_eq_true (by omega)
    have cc1 : decide (j < l0.length) = true := decide_eq_true c
    have hjl : j < l.length := by have := HN.out; omega
    obtain ⟨g, cap, ev, hg1, hg2, -⟩ := Kd.S_form HS2.out (by omega)
    injection ev with eA en ec
    clear en ec
    obtain ⟨ad, rfl⟩ : ∃ ad, A = some ad := ⟨_, eA⟩
    have ea : ad = ⟨g, 0, none⟩ := by injection eA
    clear eA
    have hSg := HS2.out
    rw [ea] at hSg
    obtain ⟨oki, cs, hcl, hM, hcc, hoki, hH⟩ := Kd.S_lend hSg ([] : List Int) (j : Int) (by omega) (by omega)
    have hd : l.drop j = l.getD j [] :: l.drop (j + 1) := by rw [List.drop_eq_getElem_cons hjl]; simp [List.getD_eq_getElem?_getD, List.getElem?_eq_getElem hjl]
    rw [Int.toNat_natCast] at hM
    obtain ⟨row, hrow⟩ : ∃ row, row = l.getD j [] := ⟨_, rfl⟩
    rw [← hrow] at hM hd
    clear hrow
    obtain ⟨iv, rfl, hR⟩ := hM
    obtain ⟨Ai, ci, rfl⟩ := Kd.R_slice hR
    have hx : wr.cell? (ad.add j) = some (.slice Ai row.length ci) := by
     have e : wr.cell? ⟨g, (j : Int).toNat * 1 + 0, none⟩ = some (.slice Ai row.length ci) := hcc 0 _ rfl
     rw [ea]
     by_cases hz : j = 0 <;> simpa [Addr.add, hz] using e
    have EA := aM ea
    have hG := HG2.out
    rw [hd] at hG
    obtain ⟨⟨b1, b2⟩, hb, hg0⟩ := oB.mp hG
    obtain ⟨⟨c1, c2⟩, hg, hgt⟩ := oB.mp hg0
    clear hg0
    obtain ⟨rfl, rfl⟩ : c1 = r ∧ b2 :: c2 = tl := by simpa using hgt
    have HT3 := aM (show (l.set j b2).take (j + 1) ++ c2 = r2 by rw [laws_markIntSS.set_take l j b2 hjl, List.append_assoc]; exact HT2.out)
    have HC := aM c
    have HR := aM hR
    have HH := aM hH
    have HO := aM hoki
    have HBB := aM hb
    have HGG := aM hg
    have hj0 : (0 : Int) ≤ (j : Int) := by omega
    have hjb : (j : Int) < 9223372036854775807 := by have := HL.out; omega
    clear hSg ea hjl hg1 hg2 hR hH hoki hb hg hG hd hcc hcl
    go_wp2_with (first | (go_at_call 13; (with_reducible refine (laws_markIntS.calls k oki _ _ kv b1 b2 w0 _ HB2.out HR.out HBB.out).mono ?_); rintro e w' ⟨rfl, hy, hb, hkp⟩; have n0_ : Aside0 (Kd.S (Kd.slice 3 (Kd.int .i64)) 22 _ w0.heap.size P0_ (.slice (some ad) l0.length cp) (l.set j b2)) := aM (by rw [EA.out]; exact Kd.H_back (Kd.H_step HH.out (fun k_ _ hn hlt => hkp.2 k_ hlt hn)) (x' := b2) ⟨_, rfl, Kd.R_reok rfl hy (fun k_ e_ => HR.out.1 k_ e_)⟩ (fun _ hk => hk)); have n1_ := aM hb; have n2_ := aM (Kept.then_ (S := fun k_ => P0_ k_) HK2.out hkp (fun k_ hk_ => .inl (HO.out k_ hk_).1)); clear HS2 HB2 HK2 hy hb hkp; have HS2 := n0_; have HB2 := n1_; have HK2 := n2_; clear n0_ n1_ n2_))
    go_roundw
    case rel => exact ⟨b1, j + 1, l.set j b2, c2, rfl, by go_num, ⟨HC.out⟩, ⟨by rw [List.length_set]; exact HN.out⟩, ⟨by rw [List.drop_set_of_lt (by omega)]; exact HGG.out⟩, HT3, HS2, HB2, HK2⟩
    case measure => have := HC.out; simp [intOf]; omega
   ·
    have c0 : decide ((j : Int) < (l0.length : Int)) = false := decide_eq_false (by omega)
    have cc1 : decide (j < l0.length) = false := decide_eq_false c
    have hG := HG2.out
    rw [List.drop_of_length_le (by have := HN.out; omega)] at hG
    obtain ⟨rfl, rfl⟩ : kv = r ∧ [] = tl := by simpa [laws_markIntSS.g] using hG
    have ht := HT2.out
    rw [List.append_nil, List.take_of_length_le (by have := HN.out; omega)] at ht
    have HT4 := aM ht
    clear hG ht
    go_wp2
    go_ret
    exact ⟨rfl, by rw [← HT4.out]; exact HS2.out, HB2.out, HK2.out⟩
 ·
  rw [if_neg c] at h; cases h
def laws_heldIntS.l0 : Nat → List Int → Int → Int → Option (Int)
 | 0, _, _, _ => none
 | k + 1, x0, x1, x5 => if x5 < (x0.length : Int) then (if 0 ≤ x5 then (if (rd x0 x5) = x1 then (laws_heldIntS.l0 k x0 (wrap64 (x1 + 1)) (wrap64 (x5 + 1))) else (some (-1))) else (none)) else (some x1)
def laws_heldIntS.f (k : Nat) (l0 : List Int) (a1 : Int) : Option (Int) := laws_heldIntS.l0 k l0 a1 0
theorem laws_heldIntS.calls (k : Nat) (A0 : Option Addr) (c0 : Nat) (l0 : List Int) (a1 : Int) (r : Int) (w : World) (hr0 : Kd.C (Kd.int .i64) w A0 l0.length l0) (hc0 : l0.length ≤ c0) (h : laws_heldIntS.f k l0 a1 = some r) :
  Calls Try.prog 14 #[.slice A0 l0.length c0, .int .i64 a1] w fun e w' => e = .returned (.int .i64 r) ∧ Drawn0 w w' := by
 have HR0 := aM hr0
 have HC0 := aM hc0
 clear hr0 hc0
 have H : (laws_heldIntS.l0 k l0 a1 0) = some r := h
 clear h
 have H' := aM H
 clear H
 go_enter Try.func14, Try.ntmps14
 go_wp2
 go_loopg [1, 5] k (fun kq v1 v5 w' => ∃ (x1_1 : Int) (x5_1 : Int), v1 = .int .i64 x1_1 ∧ v5 = .int .i64 x5_1 ∧ Aside0 (laws_heldIntS.l0 kq l0 x1_1 x5_1 = some r) ∧ Aside0 (kq ≤ k) ∧ Drawn0 w w')
 case atStart => exact ⟨(a1), (0), yZ, yZ, H', ⟨Nat.le_refl _⟩, by repeat (first | exact Drawn0.refl _ | apply Drawn0.step)⟩
 case round =>
  clear H'
  try clear c1
  obtain ⟨x1_1, x5_1, rfl, rfl, HA, HK1, ⟨m1, rfl⟩⟩ := hrel
  cases gk with
  | zero => exact absurd HA.out (by simp [laws_heldIntS.l0])
  | succ k1 =>
   have H := HA.out
   clear HA
   simp only [laws_heldIntS.l0] at H
   by_cases c3 : x5_1 < (l0.length : Int)
   rotate_left
   ·
    rw [if_neg c3] at H
    have c3b0 := decide_eq_false c3
    clear c3
    obtain rfl := Option.some.inj H
    go_wp2
    go_ret
    exact ⟨by first | rfl | (simp; done) | (simp [*]; done), by repeat (first | exact Drawn0.refl _ | apply Drawn0.step)⟩
   rw [if_pos c3] at H
   have c3b0 := decide_eq_true c3
   clear c3
   by_cases c4 : 0 ≤ x5_1
   rotate_left
   ·
    rw [if_neg c4] at H
    exact absurd H (by simp)
   rw [if_pos c4] at H
   have c4b0 := decide_eq_true c4
   clear c4
   by_cases c5 : (rd l0 x5_1) = x1_1
   rotate_left
   ·
    rw [if_neg c5] at H
    have c5b0 : ((rd l0 x5_1) == x1_1) = false := beq_eq_false_iff_ne.mpr c5
    have c5b1 : ((rd l0 x5_1) != x1_1) = true := bne_iff_ne.mpr c5
    obtain rfl := Option.some.inj H
    have p435 : 0 ≤ (x5_1 : Int) := yA
    have q435 : x5_1 < (l0.length : Int) := yA
    obtain ⟨ad435, e435, hx435_0⟩ := Kd.at_int HR0.out x5_1 p435 q435
    cases e435
    replace p435 := eq_true p435
    replace q435 := eq_true q435
    go_wp2
    go_ret
    exact ⟨by first | rfl | (simp; done) | (simp [*]; done), by repeat (first | exact Drawn0.refl _ | apply Drawn0.step)⟩
   rw [if_pos c5] at H
   have c5b0 : ((rd l0 x5_1) == x1_1) = true := beq_iff_eq.mpr c5
   have c5b1 : ((rd l0 x5_1) != x1_1) = false := bne_eq_false_iff_eq.mpr c5
   clear c5
   have H' := aM H
   clear H
   have p435 : 0 ≤ (x5_1 : Int) := yA
   have q435 : x5_1 < (l0.length : Int) := yA
   obtain ⟨ad435, e435, hx435_0⟩ := Kd.at_int HR0.out x5_1 p435 q435
   cases e435
   replace p435 := eq_true p435
   replace q435 := eq_true q435
   go_wp2
   go_roundg k1
   case measure => have := HK1.out; omega
   case rel => exact ⟨(wrap64 (x1_1 + 1)), (wrap64 (x5_1 + 1)), yZ, yZ, H', ⟨by have := HK1.out; omega⟩, by repeat (first | exact Drawn0.refl _ | apply Drawn0.step)⟩
def laws_heldIntSS.l0 : Nat → List (List Int) → Int → Int → Option (Int)
 | 0, _, _, _ => none
 | k + 1, x0, x1, x5 => if x5 < (x0.length : Int) then (if 0 ≤ x5 then ((laws_heldIntS.f k (rd_L1 x0 x5) x1).bind fun t437 => (if t437 < 0 then (some (-1)) else (laws_heldIntSS.l0 k x0 t437 (wrap64 (x5 + 1))))) else (none)) else (some x1)
def laws_heldIntSS.f (k : Nat) (l0 : List (List Int)) (a1 : Int) : Option (Int) := laws_heldIntSS.l0 k l0 a1 0
theorem laws_heldIntSS.calls (k : Nat) (A0 : Option Addr) (c0 : Nat) (l0 : List (List Int)) (a1 : Int) (r : Int) (w : World) (hr0 : Kd.C (Kd.slice 3 (Kd.int .i64)) w A0 l0.length l0) (hc0 : l0.length ≤ c0) (h : laws_heldIntSS.f k l0 a1 = some r) :
  Calls Try.prog 21 #[.slice A0 l0.length c0, .int .i64 a1] w fun e w' => e = .returned (.int .i64 r) ∧ Drawn0 w w' := by
 have HR0 := aM hr0
 have HC0 := aM hc0
 clear hr0 hc0
 have H : (laws_heldIntSS.l0 k l0 a1 0) = some r := h
 clear h
 have H' := aM H
 clear H
 go_enter Try.func21, Try.ntmps21
 go_wp2
 go_loopg [1, 5] k (fun kq v1 v5 w' => ∃ (x1_1 : Int) (x5_1 : Int), v1 = .int .i64 x1_1 ∧ v5 = .int .i64 x5_1 ∧ Aside0 (laws_heldIntSS.l0 kq l0 x1_1 x5_1 = some r) ∧ Aside0 (kq ≤ k) ∧ Drawn0 w w')
 case atStart => exact ⟨(a1), (0), yZ, yZ, H', ⟨Nat.le_refl _⟩, by repeat (first | exact Drawn0.refl _ | apply Drawn0.step)⟩
 case round =>
  clear H'
  try clear c2
  obtain ⟨x1_1, x5_1, rfl, rfl, HA, HK1, ⟨m1, rfl⟩⟩ := hrel
  cases gk with
  | zero => exact absurd HA.out (by simp [laws_heldIntSS.l0])
  | succ k1 =>
   have H := HA.out
   clear HA
   simp only [laws_heldIntSS.l0] at H
   by_cases c3 : x5_1 < (l0.length : Int)
   rotate_left
   ·
    rw [if_neg c3] at H
    have c3b0 := decide_eq_false c3
    clear c3
    obtain rfl := Option.some.inj H
    go_wp2
    go_ret
    exact ⟨by first | rfl | (simp; done) | (simp [*]; done), by repeat (first | exact Drawn0.refl _ | apply Drawn0.step)⟩
   rw [if_pos c3] at H
   have c3b0 := decide_eq_true c3
   clear c3
   by_cases c4 : 0 ≤ x5_1
   rotate_left
   ·
    rw [if_neg c4] at H
    exact absurd H (by simp)
   rw [if_pos c4] at H
   have c4b0 := decide_eq_true c4
   clear c4
   replace H := oB.mp H
   obtain ⟨t437, A50, H⟩ := H
   have A5 := aM A50
   clear A50
   by_cases c6 : t437 < 0
   ·
    rw [if_pos c6] at H
    have c6b0 := decide_eq_true c6
    clear c6
    obtain rfl := Option.some.inj H
    have p436 : 0 ≤ (x5_1 : Int) := yA
    have q436 : x5_1 < (l0.length : Int) := yA
    obtain ⟨ad436, A436_0, c436_0, e436, hx436_0, hl436_0, hi436_0⟩ := at_L1 HR0.out x5_1 p436 q436
    cases e436
    have HR436_0 := aM hi436_0
    have HC436_0 := aM hl436_0
    clear hi436_0 hl436_0
    replace p436 := eq_true p436
    replace q436 := eq_true q436
    go_wp2_with (first | (refine yL 17 Try.func14 #[.slice A436_0 (rd_L1 l0 x5_1).length c436_0, .int .i64 x1_1] ?_; (with_reducible refine (laws_heldIntS.calls k1 _ _ (rd_L1 l0 x5_1) x1_1 t437 _ ?side1 ?side2 A5.out).mono ?_); (case side1 => exact xC HR436_0.out); (case side2 => exact HC436_0.out); rintro e w' ⟨rfl, ⟨nd, rfl⟩⟩; refine ⟨_, rfl, ?_⟩))
    go_ret
    exact ⟨by first | rfl | (simp; done) | (simp [*]; done), by repeat (first | exact Drawn0.refl _ | apply Drawn0.step)⟩
   rw [if_neg c6] at H
   have c6b0 := decide_eq_false c6
   clear c6
   have H' := aM H
   clear H
   have p436 : 0 ≤ (x5_1 : Int) := yA
   have q436 : x5_1 < (l0.length : Int) := yA
   obtain ⟨ad436, A436_0, c436_0, e436, hx436_0, hl436_0, hi436_0⟩ := at_L1 HR0.out x5_1 p436 q436
   cases e436
   have HR436_0 := aM hi436_0
   have HC436_0 := aM hl436_0
   clear hi436_0 hl436_0
   replace p436 := eq_true p436
   replace q436 := eq_true q436
   go_wp2_with (first | (refine yL 17 Try.func14 #[.slice A436_0 (rd_L1 l0 x5_1).length c436_0, .int .i64 x1_1] ?_; (with_reducible refine (laws_heldIntS.calls k1 _ _ (rd_L1 l0 x5_1) x1_1 t437 _ ?side1 ?side2 A5.out).mono ?_); (case side1 => exact xC HR436_0.out); (case side2 => exact HC436_0.out); rintro e w' ⟨rfl, ⟨nd, rfl⟩⟩; refine ⟨_, rfl, ?_⟩))
   go_roundg k1
   case measure => have := HK1.out; omega
   case rel => exact ⟨(t437), (wrap64 (x5_1 + 1)), yZ, yZ, H', ⟨by have := HK1.out; omega⟩, by repeat (first | exact Drawn0.refl _ | apply Drawn0.step)⟩
theorem held_n (k : Nat) (A0 : Option Addr) (n c0 : Nat) (l0 : List (List Int)) (a1 : Int) (r : Int) (w : World) (hn : l0.length = n) (hr0 : Kd.C (Kd.slice 3 (Kd.int .i64)) w A0 l0.length l0) (hc0 : n ≤ c0) (h : laws_heldIntSS.f k l0 a1 = some r) :
  Calls Try.prog 21 #[.slice A0 n c0, .int .i64 a1] w fun e w' => e = .returned (.int .i64 r) ∧ Drawn0 w w' := by
 subst hn; exact laws_heldIntSS.calls k A0 c0 l0 a1 r w hr0 hc0 h
def laws_FnExactPlaneClass.f (k : Nat) (a0 : List (List Int)) : Option Bool :=
 (laws_szIntSS.f k a0 1048576).bind fun z => if z < 0 then some true else (laws_toIntSS.f k a0).bind fun x => (spec_PlaneClass.f k x).bind fun w => (impl_PlaneClass.f k x).bind fun g => if g = w then (laws_eqIntSS.f k g.1 w.1).bind fun e => if e = true then (laws_eqIntSS.f k x x).bind fun e2 => if e2 = true then
  (laws_markIntSS.f k x 1).bind fun n => if 0 ≤ n.1 then (laws_markIntSS.f k g.1 1).bind fun m => (laws_heldIntSS.f k m.2 1).bind fun q => if q = m.1 ∧ 0 ≤ q then some true else none else none else none else none else none
theorem laws_FnExactPlaneClass.calls (k : Nat) (A0 : Option Addr) (c0 : Nat) (l0 : List (List Int)) (r : Bool) (w : World) (hr0 : Kd.C (Kd.slice 3 (Kd.int .i64)) w A0 l0.length l0) (hc0 : l0.length ≤ c0) (h : laws_FnExactPlaneClass.f k l0 = some r) :
  Calls Try.prog 5 #[.slice A0 l0.length c0] w fun e w' => e = .returned (.bool r) ∧ Below w.heap.size w w' := by
 have HR0 := aM hr0
 have HC0 := aM hc0
 have HB := aM (Below.refl w.heap.size w)
 clear hr0 hc0
 unfold laws_FnExactPlaneClass.f at h
 obtain ⟨z, hz, h⟩ := oB.mp h
 have HZ := aM hz
 clear hz
 by_cases e0 : z < 0
 ·
  rw [if_pos e0] at h
  cases h
  have d0 : decide (z < 0) = true := decide_eq_true e0
  have FS0_ := aM trivial
  go_enter Try.func5, Try.ntmps5
  go_wp2_with (first | (go_at_call 15; have F_ := FS0_.out; clear FS0_ F_; (with_reducible refine (laws_szIntSS.calls k _ _ l0 1048576 z _ ?sa ?sb HZ.out).mono ?_); (case sa => repeat (first | exact (Kd.C_below HR0.out HB.out) | exact HR0.out | (with_reducible refine Kd.C_alloc ?_ _) | (with_reducible refine Kd.C_drew ?_) | (with_reducible refine Kd.C_drewN ?_ _))); (case sb => exact HC0.out); rintro e w' ⟨rfl, ⟨nd, rfl⟩⟩))
  go_ret
  exact ⟨rfl, by first | exact HB.out | exact eN HB.out _⟩
 ·
  rw [if_neg e0] at h
  obtain ⟨X, hx, h⟩ := oB.mp h
  obtain ⟨⟨R1, R2⟩, hw, h⟩ := oB.mp h
  obtain ⟨g, hg, h⟩ := oB.mp h
  by_cases e1 : g = (R1, R2)
  rotate_left
  ·
   rw [if_neg e1] at h; cases h
  rw [if_pos e1] at h
  subst e1
  obtain ⟨e, he, h⟩ := oB.mp h
  by_cases e2 : e = true
  rotate_left
  ·
   rw [if_neg e2] at h; cases h
  rw [if_pos e2] at h
  subst e2
  obtain ⟨e, he2, h⟩ := oB.mp h
  by_cases e2 : e = true
  rotate_left
  ·
   rw [if_neg e2] at h; cases h
  rw [if_pos e2] at h
  subst e2
  obtain ⟨⟨n1, N1⟩, hmx, h⟩ := oB.mp h
  by_cases e4 : 0 ≤ n1
  rotate_left
  ·
   rw [if_neg e4] at h; cases h
  rw [if_pos e4] at h
  obtain ⟨⟨m, M⟩, hm, h⟩ := oB.mp h
  obtain ⟨q, hq, h⟩ := oB.mp h
  by_cases e3 : q = m ∧ 0 ≤ q
  rotate_left
  ·
   rw [if_neg e3] at h; cases h
  rw [if_pos e3] at h
  cases h
  obtain ⟨rfl, hq0⟩ := e3
  have HT := aM hx
  have HW := aM hw
  have HG0 := aM hg
  have HE := aM he
  have HE2 := aM he2
  have HMX := aM hmx
  have HM := aM hm
  have HQ := aM hq
  have d0 : decide (z < 0) = false := decide_eq_false e0
  have d1 : decide (n1 < 0) = false := decide_eq_false (by omega)
  have d2 : decide (q < 0) = false := decide_eq_false (by omega)
  have d3 : (q != q) = false := by simp
  have d4 : (R2 != R2) = false := by simp
  clear hx hw hg he he2 hmx hm hq hq0 e0 e4
  have FS0_ := aM trivial
  have FS1_ := aM trivial
  have FS2_ := aM trivial
  have FS3_ := aM trivial
  have FS4_ := aM trivial
  have FS5_ := aM trivial
  have FS6_ := aM trivial
  have FS7_ := aM trivial
  have FS8_ := aM trivial
  have FS9_ := aM trivial
  have FS10_ := aM trivial
  have FS11_ := aM trivial
  have FS12_ := aM trivial
  have FS13_ := aM trivial
  have FS14_ := aM trivial
  have FS15_ := aM trivial
  go_enter Try.func5, Try.ntmps5
  go_wp2_with (first | (go_at_call 15; have F_ := FS0_.out; clear FS0_ F_; (with_reducible refine (laws_szIntSS.calls k _ _ l0 1048576 z _ ?sa ?sb HZ.out).mono ?_); (case sa => repeat (first | exact (Kd.C_below HR0.out HB.out) | exact HR0.out | (with_reducible refine Kd.C_alloc ?_ _) | (with_reducible refine Kd.C_drew ?_) | (with_reducible refine Kd.C_drewN ?_ _))); (case sb => exact HC0.out); rintro e w' ⟨rfl, ⟨nd, rfl⟩⟩) | (go_at_call 17; have F_ := FS1_.out; clear FS1_ F_; (with_reducible refine (laws_toIntSS.calls k _ _ l0 X _ ?sa ?sb HT.out).mono ?_); (case sa => repeat (first | exact (Kd.C_below HR0.out HB.out) | exact HR0.out | (with_reducible refine Kd.C_alloc ?_ _) | (with_reducible refine Kd.C_drew ?_) | (with_reducible refine Kd.C_drewN ?_ _))); (case sb => exact HC0.out); rintro e w1 ⟨v_, rfl, hs, hb⟩; have HA := aM (Kd.S_lower (Kd.S_mono (ok' := fun k_ => True) (Kd.S_bound hs) (fun k_ hk_ => trivial)) (below_size (xH HB.out))); have n_ := yS0 HB hb; clear HB; have HB := n_; clear n_; obtain ⟨AHA, cHA, rfl⟩ := Kd.S_slice hs; clear hs hb) | (go_at_call 16; have F_ := FS2_.out; clear FS2_ F_; (with_reducible refine (spec_PlaneClass.calls k _ _ X R1 R2 _ ?sa ?sb HW.out).mono ?_); (case sa => repeat (first | exact (Kd.S_reads' HA.out).2.2 | (with_reducible refine Kd.C_alloc ?_ _) | (with_reducible refine Kd.C_drew ?_) | (with_reducible refine Kd.C_drewN ?_ _))); (case sb => exact (Kd.S_reads' HA.out).2.1); rintro e w2 ⟨v_, rfl, hn, hb⟩; have HN := aM (Kd.N_lower (Kd.N_mono (ok' := fun k_ => k_ < w2.heap.size) (Kd.N_bound hn) (fun k_ hk_ => hk_.2)) (below_size (xH HB.out))); have n_ := yS0 HB hb; clear HB; have HB := n_; clear n_; obtain ⟨AN, cN, rfl⟩ := Kd.N_slice hn; clear hn hb HA) | (go_at_call 17; have F_ := FS3_.out; clear FS3_ F_; (with_reducible refine (laws_toIntSS.calls k _ _ l0 X _ ?sa ?sb HT.out).mono ?_); (case sa => repeat (first | exact (Kd.C_below HR0.out HB.out) | exact HR0.out | (with_reducible refine Kd.C_alloc ?_ _) | (with_reducible refine Kd.C_drew ?_) | (with_reducible refine Kd.C_drewN ?_ _))); (case sb => exact HC0.out); rintro e w3 ⟨v_, rfl, hs, hb⟩; have HX := aM (Kd.S_lower (Kd.S_mono (ok' := fun k_ => w2.heap.size ≤ k_ ∧ k_ < w3.heap.size) (Kd.S_bound hs) (fun k_ hk_ => ⟨hk_.2.1, hk_.2.2.1⟩)) (below_size (xH HB.out))); have n_ := aM (Kd.N_below (xN HN.out) hb); clear HN; have HN := n_; clear n_; have n_ := yS0 HB hb; clear HB; have HB := n_; clear n_; obtain ⟨AHX, cHX, rfl⟩ := Kd.S_slice hs; have HL23 := aM (show w2.heap.size ≤ w3.heap.size from hb.size); clear hs hb) | (go_at_call 18; have F_ := FS4_.out; clear FS4_ F_; (with_reducible refine (impl_PlaneClass.calls k _ _ X R1 R2 _ ?sa ?sb HG0.out).mono ?_); (case sa => repeat (first | exact (Kd.S_reads' HX.out).2.2 | (with_reducible refine Kd.C_alloc ?_ _) | (with_reducible refine Kd.C_drew ?_) | (with_reducible refine Kd.C_drewN ?_ _))); (case sb => exact (Kd.S_reads' HX.out).2.1); rintro e w4 ⟨v_, rfl, hs, hb⟩; have HG := aM (Kd.S_lower (Kd.S_mono (ok' := fun k_ => w3.heap.size ≤ k_ ∧ k_ < w4.heap.size) (Kd.S_bound hs) (fun k_ hk_ => ⟨hk_.2.1, hk_.2.2.1⟩)) (below_size (xH HB.out))); have n_ := aM (Kd.S_below (xS HX.out) hb); clear HX; have HX := n_; clear n_; have n_ := aM (Kd.N_below (xN HN.out) hb); clear HN; have HN := n_; clear n_; have n_ := yS0 HB hb; clear HB; have HB := n_; clear n_; obtain ⟨AHG, cHG, rfl⟩ := Kd.S_slice hs; clear hs hb) | (go_at_call 19; have F_ := FS5_.out; clear FS5_ F_; (with_reducible refine (laws_eqIntSS.calls k _ _ R1 _ _ R1 true _ ?sa ?sb ?sc ?sd HE.out).mono ?_); (case sa => repeat (first | exact (Kd.S_reads' HG.out).2.2 | (with_reducible refine Kd.C_alloc ?_ _) | (with_reducible refine Kd.C_drew ?_) | (with_reducible refine Kd.C_drewN ?_ _))); (case sb => exact (Kd.S_reads' HG.out).2.1); (case sc => repeat (first | exact (Kd.N_reads' HN.out).2.2 | (with_reducible refine Kd.C_alloc ?_ _) | (with_reducible refine Kd.C_drew ?_) | (with_reducible refine Kd.C_drewN ?_ _))); (case sd => exact (Kd.N_reads' HN.out).2.1); rintro e w' ⟨rfl, ⟨nd, rfl⟩⟩) | (go_at_call 17; have F_ := FS6_.out; clear FS6_ F_; (with_reducible refine (laws_toIntSS.calls k _ _ l0 X _ ?sa ?sb HT.out).mono ?_); (case sa => repeat (first | exact (Kd.C_below HR0.out HB.out) | exact HR0.out | (with_reducible refine Kd.C_alloc ?_ _) | (with_reducible refine Kd.C_drew ?_) | (with_reducible refine Kd.C_drewN ?_ _))); (case sb => exact HC0.out); rintro e w5 ⟨v_, rfl, hs, hb⟩; have HA := aM (Kd.S_lower (Kd.S_mono (ok' := fun k_ => True) (Kd.S_bound hs) (fun k_ hk_ => trivial)) (below_size (xH HB.out))); have n_ := aM (Kd.S_below (xS HX.out) hb); clear HX; have HX := n_; clear n_; have n_ := aM (Kd.S_below (xS HG.out) hb); clear HG; have HG := n_; clear n_; have n_ := aM (Kd.N_below (xN HN.out) hb); clear HN; have HN := n_; clear n_; have n_ := yS0 HB hb; clear HB; have HB := n_; clear n_; obtain ⟨AHA, cHA, rfl⟩ := Kd.S_slice hs; clear hs hb) | (go_at_call 19; have F_ := FS7_.out; clear FS7_ F_; (with_reducible refine (laws_eqIntSS.calls k _ _ X _ _ X true _ ?sa ?sb ?sc ?sd HE2.out).mono ?_); (case sa => repeat (first | exact (Kd.S_reads' HX.out).2.2 | (with_reducible refine Kd.C_alloc ?_ _) | (with_reducible refine Kd.C_drew ?_) | (with_reducible refine Kd.C_drewN ?_ _))); (case sb => exact (Kd.S_reads' HX.out).2.1); (case sc => repeat (first | exact (Kd.S_reads' HA.out).2.2 | (with_reducible refine Kd.C_alloc ?_ _) | (with_reducible refine Kd.C_drew ?_) | (with_reducible refine Kd.C_drewN ?_ _))); (case sd => exact (Kd.S_reads' HA.out).2.1); rintro e w' ⟨rfl, ⟨nd, rfl⟩⟩) | (go_at_call 20; have F_ := FS8_.out; clear FS8_ F_; (with_reducible refine (laws_markIntSS.calls k (fun k_ => w2.heap.size ≤ k_ ∧ k_ < w3.heap.size) _ X 1 n1 N1 w _ ?sa ?sb HMX.out).mono ?_); (case sa => exact (xH HB.out)); (case sb => exact (xS HX.out)); rintro e w6 ⟨rfl, hs, hb, hk⟩; have n_ := aM (Kd.S_kept (xS HG.out) hk (fun k_ hk_ hn_ => by omega)); clear HG; have HG := n_; clear n_; have n_ := aM (Kd.N_kept (xN HN.out) hk (fun k_ hk_ hn_ => by omega)); clear HN; have HN := n_; clear n_; clear HB HX HA; have HB := aM hb; clear hs hb hk) | (go_at_call 19; have F_ := FS9_.out; clear FS9_ F_; (with_reducible refine (laws_eqIntSS.calls k _ _ R1 _ _ R1 true _ ?sa ?sb ?sc ?sd HE.out).mono ?_); (case sa => repeat (first | exact (Kd.S_reads' HG.out).2.2 | (with_reducible refine Kd.C_alloc ?_ _) | (with_reducible refine Kd.C_drew ?_) | (with_reducible refine Kd.C_drewN ?_ _))); (case sb => exact (Kd.S_reads' HG.out).2.1); (case sc => repeat (first | exact (Kd.N_reads' HN.out).2.2 | (with_reducible refine Kd.C_alloc ?_ _) | (with_reducible refine Kd.C_drew ?_) | (with_reducible refine Kd.C_drewN ?_ _))); (case sd => exact (Kd.N_reads' HN.out).2.1); rintro e w' ⟨rfl, ⟨nd, rfl⟩⟩) | (go_at_call 20; have F_ := FS10_.out; clear FS10_ F_; (with_reducible refine (laws_markIntSS.calls k (fun k_ => w3.heap.size ≤ k_ ∧ k_ < w4.heap.size) _ R1 1 q M w _ ?sa ?sb HM.out).mono ?_); (case sa => exact (xH HB.out)); (case sb => exact (xS HG.out)); rintro e w7 ⟨rfl, hs, hb, hk⟩; have HS := aM hs; have n_ := aM (Kd.N_kept (xN HN.out) hk (fun k_ hk_ hn_ => by have := HL23.out; omega)); clear HN; have HN := n_; clear n_; clear HB HG; have HB := aM hb; clear hs hb hk) | (go_at_call 21; have F_ := FS11_.out; clear FS11_ F_; (with_reducible refine (held_n k _ _ _ M 1 q _ ?sl ?sa ?sb HQ.out).mono ?_); (case sl => exact (Kd.S_reads' HS.out).1.symm); (case sa => repeat (first | exact (Kd.S_reads' HS.out).2.2 | (with_reducible refine Kd.C_alloc ?_ _) | (with_reducible refine Kd.C_drew ?_) | (with_reducible refine Kd.C_drewN ?_ _))); (case sb => exact (Kd.S_reads' HS.out).2.1); rintro e w' ⟨rfl, ⟨nd, rfl⟩⟩) | (go_at_call 17; have F_ := FS12_.out; clear FS12_ F_; (with_reducible refine (laws_toIntSS.calls k _ _ l0 X _ ?sa ?sb HT.out).mono ?_); (case sa => repeat (first | exact (Kd.C_below HR0.out HB.out) | exact HR0.out | (with_reducible refine Kd.C_alloc ?_ _) | (with_reducible refine Kd.C_drew ?_) | (with_reducible refine Kd.C_drewN ?_ _))); (case sb => exact HC0.out); rintro e w8 ⟨v_, rfl, hs, hb⟩; have HA := aM (Kd.S_lower (Kd.S_mono (ok' := fun k_ => True) (Kd.S_bound hs) (fun k_ hk_ => trivial)) (below_size (xH HB.out))); have n_ := aM (Kd.S_below (xS HS.out) hb); clear HS; have HS := n_; clear n_; have n_ := aM (Kd.N_below (xN HN.out) hb); clear HN; have HN := n_; clear n_; have n_ := yS0 HB hb; clear HB; have HB := n_; clear n_; obtain ⟨AHA, cHA, rfl⟩ := Kd.S_slice hs; clear hs hb) | (go_at_call 18; have F_ := FS13_.out; clear FS13_ F_; (with_reducible refine (impl_PlaneClass.calls k _ _ X R1 R2 _ ?sa ?sb HG0.out).mono ?_); (case sa => repeat (first | exact (Kd.S_reads' HA.out).2.2 | (with_reducible refine Kd.C_alloc ?_ _) | (with_reducible refine Kd.C_drew ?_) | (with_reducible refine Kd.C_drewN ?_ _))); (case sb => exact (Kd.S_reads' HA.out).2.1); rintro e w9 ⟨v_, rfl, hs, hb⟩; have HH := aM (Kd.S_lower (Kd.S_mono (ok' := fun k_ => True) (Kd.S_bound hs) (fun k_ hk_ => trivial)) (below_size (xH HB.out))); have n_ := aM (Kd.S_below (xS HS.out) hb); clear HS; have HS := n_; clear n_; have n_ := aM (Kd.N_below (xN HN.out) hb); clear HN; have HN := n_; clear n_; have n_ := yS0 HB hb; clear HB; have HB := n_; clear n_; obtain ⟨AHH, cHH, rfl⟩ := Kd.S_slice hs; clear hs hb) | (go_at_call 19; have F_ := FS14_.out; clear FS14_ F_; (with_reducible refine (laws_eqIntSS.calls k _ _ R1 _ _ R1 true _ ?sa ?sb ?sc ?sd HE.out).mono ?_); (case sa => repeat (first | exact (Kd.S_reads' HH.out).2.2 | (with_reducible refine Kd.C_alloc ?_ _) | (with_reducible refine Kd.C_drew ?_) | (with_reducible refine Kd.C_drewN ?_ _))); (case sb => exact (Kd.S_reads' HH.out).2.1); (case sc => repeat (first | exact (Kd.N_reads' HN.out).2.2 | (with_reducible refine Kd.C_alloc ?_ _) | (with_reducible refine Kd.C_drew ?_) | (with_reducible refine Kd.C_drewN ?_ _))); (case sd => exact (Kd.N_reads' HN.out).2.1); rintro e w' ⟨rfl, ⟨nd, rfl⟩⟩) | (go_at_call 21; have F_ := FS15_.out; clear FS15_ F_; (with_reducible refine (held_n k _ _ _ M 1 q _ ?sl ?sa ?sb HQ.out).mono ?_); (case sl => exact (Kd.S_reads' HS.out).1.symm); (case sa => repeat (first | exact (Kd.S_reads' HS.out).2.2 | (with_reducible refine Kd.C_alloc ?_ _) | (with_reducible refine Kd.C_drew ?_) | (with_reducible refine Kd.C_drewN ?_ _))); (case sb => exact (Kd.S_reads' HS.out).2.1); rintro e w' ⟨rfl, ⟨nd, rfl⟩⟩))
  go_ret
  exact ⟨rfl, by repeat (first | (with_reducible first | exact HB.out | apply eA | apply eN | apply eD) | exact HB.out)⟩
end Go.Proofs.Ytgidnmpppbkamaa.PFnExactPlaneClass
