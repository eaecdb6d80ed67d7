-- Laid for this claim by a program of the session's own (wip/tool/myprint.py).
import Derived.Test.YtkgekmpnbhomgaaMFnSidesx14
namespace Go.Proofs.Ytkgekmpnbhomgaa.PFnSides
open Go.RowKit Go.Proofs.YtkgekmpnbhomgaaW.PrintWords Go.Proofs.YtkgekmpnbhomgaaW.PrintLast Go.Proofs.YtkgekmpnbhomgaaW.PrintMore
attribute [local go_sem] max2_int min2_int max_two min_two max_three min_three max_four min_four
set_option linter.unusedVariables false
set_option maxHeartbeats 8000000
set_option maxRecDepth 100000
set_option linter.unusedSimpArgs false
def impl_shortened.l0 : Nat → List Int → Int → Int → Int → Option (List Int)
  | 0, _, _, _, _ => none
  | k + 1, x0, x2, x9, x10 => if x10 < x9 then (if 0 ≤ x10 then (if x10 < (x0.length : Int) then (if x2 = 0 then (none) else (impl_shortened.l0 k (x0.set (x10 : Int).toNat (wrap64 (Int.tdiv (rd x0 x10) x2))) x2 x9 (wrap64 (x10 + 1)))) else (none)) else (none)) else (some x0)
def impl_shortened.f (k : Nat) (l0 : List Int) : Option (List Int) := (impl_divisor.f k l0).bind fun t569 => (if t569 > 1 then (impl_shortened.l0 k l0 t569 (l0.length : Int) 0) else (some l0))
theorem impl_shortened.calls (k : Nat) (P0_ : Nat → Prop) (u9000_ : Value) (l0 : List Int) (r : List Int) (w0 w : World) (hB : Below w0.heap.size w0 w) (ho0 : Kd.R (Kd.int .i64) 3 w w0.heap.size P0_ u9000_ l0) (h : impl_shortened.f k l0 = some r) :
    Calls Try.prog 124 #[u9000_] w fun e w' => e = .returned (.tuple #[]) ∧ Kd.R (Kd.int .i64) 3 w' w0.heap.size (fun k_ => (P0_ k_ ∨ w.heap.size ≤ k_)) u9000_ r ∧ Below w0.heap.size w0 w' ∧ Kept w w' (fun k_ => P0_ k_) := by
 have HO0 := aM (show Kd.R (Kd.int .i64) 3 w w0.heap.size (fun k_ => (P0_ k_ ∨ w.heap.size ≤ k_)) u9000_ l0 from rM ho0 (fun k_ hk => (.inl hk))); have HK := aM (Kept.refl w (fun k_ => P0_ k_)); have HW0 := aM hB.size; have HB := aM hB; clear hB; have H : ((impl_divisor.f k l0).bind fun t569 => (if t569 > 1 then (impl_shortened.l0 k l0 t569 (l0.length : Int) 0) else (some l0))) = some r := h; clear h; replace H := oA H; obtain ⟨t569, A2, H⟩ := H; obtain ⟨c3, -, H⟩ | ⟨c3, -, H⟩ := yif H
 rotate_left
 ·
  have c3b0 : decide (1 < t569) = false := decide_eq_false c3; clear c3; obtain rfl := Option.some.inj H; obtain ⟨Ao13, co13, eo13⟩ := Kd.R_slice HO0.out; subst eo13; go_enter Try.func124, Try.ntmps124; go_wp2_with (first | (refine yL 5 Try.func123 #[.slice Ao13 l0.length co13] ?_; (with_reducible refine (impl_divisor.calls k _ _ l0 t569 _ (xC (Kd.R_reads' HO0.out).2.2) ((Kd.R_reads' HO0.out).2.1) A2.out).mono ?_); rintro e w14 ⟨rfl, hb⟩; refine ⟨_, rfl, ?_⟩; replace HO0 := aM (Kd.R_below (xR HO0.out) hb); replace HK := aM (Kept.below (S := (fun k_ => P0_ k_)) (by repeat (first | (with_reducible first | exact HK.out | apply Kept.alloc | apply Kept.drewN | apply Kept.drew) | exact HK.out)) hb); replace HB := yS0 HB hb; (try clear hb)))
  first | go_end0 | ((try simp only [Exit.inBlock, Exit.then]); refine bodyPost_ret (results_none rfl _ _ _) rfl ?_)
  exact ⟨yF, xR HO0.out, xH HB.out, by repeat (first | (with_reducible first | exact HK.out | apply Kept.alloc | apply Kept.drewN | apply Kept.drew) | exact HK.out)⟩
 have c3b0 : decide (1 < t569) = true := decide_eq_true c3; clear c3; have H' := aM H; clear H; obtain ⟨Ao4, co4, eo4⟩ := Kd.R_slice HO0.out; subst eo4; go_enter Try.func124, Try.ntmps124; go_wp2_with (first | (refine yL 5 Try.func123 #[.slice Ao4 l0.length co4] ?_; (with_reducible refine (impl_divisor.calls k _ _ l0 t569 _ (xC (Kd.R_reads' HO0.out).2.2) ((Kd.R_reads' HO0.out).2.1) A2.out).mono ?_); rintro e w5 ⟨rfl, hb⟩; refine ⟨_, rfl, ?_⟩; replace HO0 := aM (Kd.R_below (xR HO0.out) hb); replace HK := aM (Kept.below (S := (fun k_ => P0_ k_)) (by repeat (first | (with_reducible first | exact HK.out | apply Kept.alloc | apply Kept.drewN | apply Kept.drew) | exact HK.out)) hb); replace HB := yS0 HB hb; (try clear hb))); go_loopg [10] k (fun kq v10 w' => ∃ (x0_1 : List Int) (x10_1 : Int), v10 = .int .i64 x10_1 ∧ Aside0 (impl_shortened.l0 kq x0_1 t569 (l0.length : Int) x10_1 = some r) ∧ Aside0 (kq ≤ k) ∧ Aside0 (Kd.R (Kd.int .i64) 3 w' w0.heap.size (fun k_ => (P0_ k_ ∨ w.heap.size ≤ k_)) (.slice Ao4 l0.length co4) x0_1) ∧ Aside0 (Kept w w' (fun k_ => P0_ k_)) ∧ Aside0 (Below w0.heap.size w0 w')); case atStart => exact ⟨(l0), (0), yZ, H', ⟨Nat.le_refl _⟩, ⟨xR HO0.out⟩, ⟨by repeat (first | (with_reducible first | exact HK.out | apply Kept.alloc | apply Kept.drewN | apply Kept.drew) | exact HK.out)⟩, ⟨xH HB.out⟩⟩
 case round =>
  clear H'; try clear c3
  try clear c3b0
  obtain ⟨x0_1, x10_1, rfl, HA, HK1, HO_0, HK, HB⟩ := hrel; have hl0_1 := (Kd.R_reads' HO_0.out).1; rw [hl0_1] at HO_0; (try simp only [hl0_1]); cases gk with
  | zero => exact absurd HA.out (by simp [impl_shortened.l0])
  | succ k1 =>
   have H := HA.out; clear HA; simp only [impl_shortened.l0] at H; obtain ⟨-, c6b0, H⟩ | ⟨-, c6b0, H⟩ := yif H
   rotate_left
   ·
    have c6b9 := c6b0; (try simp only [hl0_1] at c6b9); obtain rfl := Option.some.inj H; go_wp2
    first | go_end0 | ((try simp only [Exit.inBlock, Exit.then]); refine bodyPost_ret (results_none rfl _ _ _) rfl ?_)
    exact ⟨yF, (by first | exact (xR HO_0.out) | (simp only [hl0_1]; exact (xR HO_0.out))), xH HB.out, by repeat (first | (with_reducible first | exact HK.out | apply Kept.alloc | apply Kept.drewN | apply Kept.drew) | exact HK.out)⟩
   obtain ⟨-, c7b0, H⟩ | ⟨c7, -, H⟩ := yif H
   rotate_left
   · exact absurd H (by simp)
   obtain ⟨-, c8b0, H⟩ | ⟨c8, -, H⟩ := yif H
   rotate_left
   · exact absurd H (by simp)
   obtain ⟨c9, -, H⟩ | ⟨c9, -, H⟩ := yif H
   · exact absurd H (by simp)
   have c9b0 : (t569 == 0) = false := beq_eq_false_iff_ne.mpr c9; have c9b1 : (t569 != 0) = true := bne_iff_ne.mpr c9; obtain ⟨y571, hy571⟩ := yE (x0_1.set (x10_1 : Int).toNat (wrap64 (Int.tdiv (rd x0_1 x10_1) t569)) : List Int); replace H : (impl_shortened.l0 k1 y571 t569 (l0.length : Int) (wrap64 (x10_1 + 1))) = some r := yI hy571 H; have Ny571 := aM hy571; clear hy571; have H' := aM H; clear H; obtain ⟨ad570, e570, hx570_0, p570, q570⟩ := yi (Kd.R_reads' HO_0.out).2.2 x10_1; cases e570
   have p10 : 0 ≤ (x10_1 : Int) := yA; have q10 : (x10_1 : Int) < ((x0_1.length : Int) : Int) := yA; obtain ⟨go10, co10, eo10, gb10, gl10, cl10, HG10⟩ := Kd.R_form HO_0.out (by omega); (first | cases eo10 | (injection eo10 with ea_ en_ ec_; (first | subst ea_ | (injection ea_ with ea_; subst ea_)); subst ec_; clear en_)); have GB10 := aM gb10; have GG10 := aM HG10; clear gb10 gl10 HG10; have HMgo10 := aM (show (P0_ go10 ∨ w.heap.size ≤ go10) from (HO_0.out.1 _ rfl)); (first | simp only [add_plain] at hx570_0 | skip); obtain ⟨hx10_0, hf10_0⟩ := Kd.R_celln 0 HO_0.out (x10_1 : Int) p10 q10; replace p10 := eq_true p10; replace q10 := eq_true q10; have HP11 := Kd.R_putg HO_0.out (x10_1 : Int) (wrap64 (Int.tdiv (rd x0_1 x10_1) t569)); go_wp2_with (first | ((with_reducible refine gate_store (t := 3) (p := 19) rfl ?_); refine store_event (t := 3) (p := 19) (v := ?vo_w12) (w1 := (wr.setCell ⟨go10, (x10_1 : Int).toNat, none⟩ (.int .i64 (wrap64 (Int.tdiv (rd x0_1 x10_1) t569))))) ?hg ?ho ?hn ?hr ?_; (case ho => rfl); (case hg => rfl); (case hn => rfl); (case hr => first | (go_simp; done) | (go_simp; rfl)); intro w12 hw; have hg : wr.grownBy w12 (some go10) := (by rw [hw]; exact HP11.2); have hp_ : Kd.R (Kd.int .i64) 3 w12 w0.heap.size (fun k_ => (P0_ k_ ∨ w.heap.size ≤ k_)) (.slice (some ⟨go10, 0, none⟩) x0_1.length co4) y571 := (by rw [hw, Ny571.out]; exact HP11.1); clear HP11; replace HB := aM ((by rw [hw]; exact eS (HB.out) GB10.out : Below w0.heap.size w0 w12)); replace HK := aM (Kept.of_grown (S := (fun k_ => P0_ k_)) hg (by repeat (first | (with_reducible first | exact HK.out | apply Kept.alloc | apply Kept.drewN | apply Kept.drew) | exact HK.out)) (fun k_ e_ => (HO_0.out.1 k_ e_))); replace HO_0 := aM (hp_); clear hg hw hp_)); (try simp only [← hl0_1]); go_roundg k1; case measure => have := HK1.out; omega
   case rel => exact ⟨(y571), (wrap64 (x10_1 + 1)), yZ, H', ⟨by have := HK1.out; omega⟩, ⟨by (try simp only [hl0_1]); (with_reducible repeat (first | apply rA | apply rN | apply rD)); exact HO_0.out⟩, ⟨by repeat (first | (with_reducible first | exact HK.out | apply Kept.alloc | apply Kept.drewN | apply Kept.drew) | exact HK.out)⟩, ⟨xH HB.out⟩⟩
end Go.Proofs.Ytkgekmpnbhomgaa.PFnSides
