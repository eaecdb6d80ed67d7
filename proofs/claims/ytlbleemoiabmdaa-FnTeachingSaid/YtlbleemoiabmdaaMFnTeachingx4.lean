-- Laid for this claim by a program of the session's own (wip/tool/myprint.py).
import Derived.Test.YtlbleemoiabmdaaMFnTeachingx0
namespace Go.Proofs.Ytlbleemoiabmdaa.PFnTeaching
open Go.RowKit Go.Proofs.YtlbleemoiabmdaaW.PrintWords Go.Proofs.YtlbleemoiabmdaaW.PrintLast Go.Proofs.YtlbleemoiabmdaaW.PrintMore
attribute [local go_sem] max2_int min2_int max_two min_two max_three min_three max_four min_four
set_option linter.unusedVariables false
set_option linter.unusedSimpArgs false
def cmbs (n : Nat) : Nat → Nat → List (List Int)
 | 0, _ => [[]]
 | r + 1, i => (List.range' i (n - i)).flatMap fun j => (cmbs n r (j + 1)).map fun c => (j : Int) :: c
def uptoT (p : List Int → Bool) : List (List Int) → List (List Int)
 | [] => []
 | x :: l => if p x = true then [x] else x :: uptoT p l
theorem uptoT_yes (p : List Int → Bool) : ∀ A B : List (List Int), A.any p = true → uptoT p (A ++ B) = uptoT p A := by
 intro A
 induction A with
 | nil => intro B h; simp at h
 | cons x A ih =>
  intro B h
  simp only [List.cons_append, uptoT]
  by_cases c : p x = true
  ·
   rw [if_pos c, if_pos c]
  ·
   rw [if_neg c, if_neg c, ih B (by simpa [c] using h)]
theorem uptoT_no (p : List Int → Bool) : ∀ A B : List (List Int), A.any p = false → uptoT p (A ++ B) = A ++ uptoT p B := by
 intro A
 induction A with
 | nil => intro B _; rfl
 | cons x A ih =>
  intro B h
  rw [List.any_cons, Bool.or_eq_false_iff] at h
  simp only [List.cons_append, uptoT]
  rw [if_neg (by rw [h.1]; decide), ih B h.2]
theorem uptoT_all (p : List Int → Bool) (A : List (List Int)) (h : A.any p = false) : uptoT p A = A := by
 have := uptoT_no p A [] h
 simpa [uptoT] using this
theorem cmbs_len (n : Nat) : ∀ r i, ∀ c ∈ cmbs n r i, c.length = r := by
 intro r
 induction r with
 | zero => intro i c hc; simp [cmbs] at hc; subst hc; rfl
 | succ r ih =>
  intro i c hc
  simp only [cmbs, List.mem_flatMap, List.mem_map] at hc
  obtain ⟨j, _, d, hd, rfl⟩ := hc
  simp [ih _ d hd]
theorem cmbs_step (n r i : Nat) (h : i < n) : cmbs n (r + 1) i = (cmbs n r (i + 1)).map (fun c => (i : Int) :: c) ++ cmbs n (r + 1) (i + 1) := by
 simp only [cmbs]
 rw [show n - i = n - (i + 1) + 1 by omega, List.range'_succ, List.flatMap_cons]
theorem cmbs_end (n r i : Nat) (h : n ≤ i) : cmbs n (r + 1) i = [] := by
 simp only [cmbs]
 rw [show n - i = 0 by omega]; rfl
theorem append_new_step {P : Program} {ops : Array Oper} {o : Oper} {N : Option Tmp} {a : Act} {Q : Exit → Act → World → Prop} {K : Act → World → Prop} {W W1 : World} (hw : Region.wanted o (yielded ops a.tmps) = true) (hN : o.dst = N) (s x : Operand) (t e : TypeId)
  (ho : o.op = .call { callee := .builtin .append, args := #[s, x], argTypes := #[t, t] }) (ht : P.underlying t = some (.slice e)) (hinfo : (P.info? e).map (fun i => (i.zero, i.size, i.bytes)) = some (some (.int .i64 0), 1, 8))
  (A : Option Addr) (xs : List Int) (y : Int) (hn : A = none → xs = []) (hs : a.eval s = .slice A xs.length xs.length) (g : Nat) (hB0 : Below W.heap.size W W1) (hgx : W1.heap[g]? = some (.cells #[.int .i64 y] e (0, 0))) (hx : a.eval x = .slice (some ⟨g, 0, none⟩) 1 1) (hC : Kd.C (Kd.int .i64) W A xs.length xs) (hl : xs.length ≤ 1000000)
  (h : ∀ v1 w1, Kd.R (Kd.int .i64) e w1 W.heap.size (fun _ => True) v1 (xs ++ [y]) → Below W.heap.size W w1 → K (a.put N v1) w1) :
  if Region.wanted o (yielded ops a.tmps) = true then Oper.wp P o a W1 K Q else K (a.put N undef) W1 := by
 subst hN
 obtain ⟨i0, hi, hzz⟩ := Option.map_eq_some_iff.1 hinfo
 simp only [Prod.mk.injEq] at hzz
 obtain ⟨hz0, hz1, hz2⟩ := hzz
 rw [if_pos hw]
 have hnew : ∀ j u, ([Value.int .i64 y])[j]? = some u → W1.cell? ((⟨g, 0, none⟩ : Addr).add j) = some u := by
  simpa using World.news_of_block (cs := #[Value.int .i64 y]) (t := e) (fr := (0, 0)) hgx
 have hrun : ∃ v1 w1, (Builtin.append_ #[t, t] o.type #[.slice A xs.length xs.length, .slice (some ⟨g, 0, none⟩) 1 1]).run P W1 = .ok v1 w1 ∧ w1.ownsRow W1.heap.size e 1 v1 (xs.length + 1) (nums .i64 xs ++ [.int .i64 y]) ∧ W1.grownBy w1 none := by
  rcases A with _ | ad
  ·
   obtain rfl := hn rfl
   obtain ⟨v', w', hr, r1, r2, _⟩ := run_append_own (P := P) W1 W1.heap.size t o.type e i0 (.int .i64 0) 1 8 ht hi hz0 hz1 hz2 rfl (by decide) (.slice none 0 0) 0 [] (World.ownsRow_nil _ _ e 1) ⟨g, 0, none⟩ 1 1 [.int .i64 y] (by simp) hnew (by simp [Value.oneCell']) (by simp [maxLen]) (by omega) (Nat.le_refl _)
   exact ⟨v', w', hr, by simpa [nums] using r1, by simpa [Value.ownBlock] using r2⟩
  ·
   refine run_append_arg_grows (P := P) W1 t o.type e i0 (.int .i64 0) 1 8 ht hi hz0 hz1 hz2 rfl (by decide) ad xs.length xs.length (nums .i64 xs) (by simp [nums]) (fun j u hu => ?_) ⟨g, 0, none⟩ 1 1 [.int .i64 y] (by simp) hnew (by omega) (by simp only [maxLen]; omega) (by omega)
   have hj : j < xs.length := by
    rcases Nat.lt_or_ge j xs.length with h | h
    ·
     exact h
    ·
     simp [nums, List.getElem?_eq_none h] at hu
   obtain ⟨ad', e1, hc⟩ := Kd.at_int hC (j : Int) (by omega) (by omega)
   cases e1
   rw [Int.toNat_natCast] at hc
   have hc2 := (hB0.cell (World.block_lt_of_cell? W _ hc)).trans hc
   rw [hc2]
   simp [nums, List.getElem?_eq_getElem hj] at hu
   subst hu
   simp [rd, List.getD_eq_getElem?_getD, List.getElem?_eq_getElem hj]
 obtain ⟨v1, w1, hr, hown, hg⟩ := hrun
 unfold Oper.wp execOp
 simp only [ho, resolve, invoke, builtin, Sem.run_bind, Sem.run_pure, Result.andThen_ok, List.map_toArray, List.map_cons, List.map_nil, hs, hx, hr]
 refine h v1 w1 (Kd.R_of_own (own_weaken (by simpa [nums, encs] using hown) (below_size hB0)) (fun _ _ => trivial)) ?_
 exact hB0.grown hg (below_size hB0) (fun k hk => by cases hk)
theorem slice_full {P : Program} (t : TypeId) {e : TypeId} {α : Type} {z : α} {F : TypeInfo → α} (ht : P.underlying t = some (.slice e)) (hinfo : (P.info? e).map F = some z) (A : Option Addr) (n c : Nat) (hn : n ≤ c) (h : A = none → n = 0) :
  ∀ W : World, (Instr.slice t (.slice A n c) none (some (.int .i64 (n : Int))) (some (.int .i64 (n : Int)))).run P W = .ok (.slice A n n) W := by
 intro W
 obtain ⟨i, hi, _⟩ := Option.map_eq_some_iff.1 hinfo
 have hel : P.elem t = e := by simp [Program.elem, ht]
 have hu : P.underlying t = some (.slice (P.elem t)) := by rw [hel]; exact ht
 rw [run_slice_hm W t A n c hu .i64 .i64 (n : Int) (n : Int) (by omega) (by omega) (by omega), hel]
 simp [sizeOf, typeInfo, hi, sliced, Result.andThen]
 intro _
 cases A <;> simp [Addr.add]
def Fr (S : Nat → Prop) (W W' : World) : Prop := Below 0 W W' ∧ ∀ i, i < W.heap.size → ¬ S i → W'.heap[i]? = W.heap[i]?
theorem Fr.size {S : Nat → Prop} {W W1 : World} (h : Fr S W W1) : W.heap.size ≤ W1.heap.size := h.1.size
theorem Fr.refl (S : Nat → Prop) (W : World) : Fr S W W := ⟨Below.refl 0 W, fun _ _ _ => rfl⟩
theorem Fr.trans {S : Nat → Prop} {W W1 W2 : World} (h : Fr S W W1) (k : Fr S W1 W2) : Fr S W W2 :=
 ⟨⟨k.1.os.trans h.1.os, k.1.tape.trans h.1.tape, k.1.output.trans h.1.output, Nat.le_trans h.1.size k.1.size, fun i hi => absurd hi (Nat.not_lt_zero i)⟩, fun i hi hs => (k.2 i (Nat.lt_of_lt_of_le hi h.1.size) hs).trans (h.2 i hi hs)⟩
theorem Fr.below {S : Nat → Prop} {W W1 : World} (h : Below W.heap.size W W1) : Fr S W W1 := ⟨⟨h.os, h.tape, h.output, h.size, fun i hi => absurd hi (Nat.not_lt_zero i)⟩, fun i hi _ => h.block i hi⟩
theorem Fr.onto {S : Nat → Prop} {w W W1 : World} (f : Fr S W W1) (h : Below w.heap.size w W) (hS : ∀ i, S i → w.heap.size ≤ i) : Below w.heap.size w W1 :=
 ⟨f.1.os.trans h.os, f.1.tape.trans h.tape, f.1.output.trans h.output, Nat.le_trans h.size f.1.size, fun i hi => (f.2 i (Nat.lt_of_lt_of_le hi h.size) (fun hs => by have := hS i hs; omega)).trans (h.block i hi)⟩
theorem Fr.blk {S : Nat → Prop} {W W1 : World} {g : Nat} {o : Obj} (h : Fr S W W1) (hb : W.heap[g]? = some o) (hs : ¬ S g) : W1.heap[g]? = some o := (h.2 g (blk_lt hb) hs).trans hb
def Ft (S : Nat → Prop) (W : World) (A : Option Addr) (l : List Int) : Prop := ∀ W', Fr S W W' → Kd.C (Kd.int .i64) W' A l.length l
theorem Ft.now {S : Nat → Prop} {W : World} {A : Option Addr} {l : List Int} (h : Ft S W A l) : Kd.C (Kd.int .i64) W A l.length l := h W (Fr.refl S W)
theorem Ft.move {S : Nat → Prop} {W W1 : World} {A : Option Addr} {l : List Int} (h : Ft S W A l) (k : Fr S W W1) : Ft S W1 A l := fun W' h' => h W' (k.trans h')
theorem Ft.nil (S : Nat → Prop) (W : World) : Ft S W none [] := fun W' _ => Kd.C_nil _ W'
theorem Ft.row {S : Nat → Prop} {W : World} {B : Nat} {A : Option Addr} {c : Nat} {l : List Int} (h : Kd.R (Kd.int .i64) 3 W B (fun _ => True) (.slice A l.length c) l) (hS : ∀ i, S i → i < B) : Ft S W A l := by
 intro W' hf
 have h1 := rM (ok' := fun k => B ≤ k ∧ k < W.heap.size) (Kd.R_bound h) (fun k hk => ⟨hk.2.1, hk.2.2.1⟩)
 have h2 := Kd.R_move h1 (w1 := W') (fun k hk => hf.2 k hk.2 (fun hs => by have := hS k hs; omega))
 obtain ⟨A', c', e, _, hc⟩ := Kd.R_reads h2
 injection e with e1 e2 e3
 rw [e1]; exact hc
def ChX (n k : Nat) (G : FuncId) (vcaps : Array Value) (bk bv bn bg : Nat) (W : World) : Prop :=
 W.heap[bk]? = some (.cells #[.int .i64 (k : Int)] 3 (0, 0)) ∧ W.heap[bv]? = some (.cells #[.func (.func G) #[] vcaps] 65 (0, 0)) ∧ W.heap[bn]? = some (.cells #[.int .i64 (n : Int)] 3 (0, 0)) ∧
  W.heap[bg]? = some (.cells #[.func (.func 109) #[] #[.pointer (some ⟨bk, 0, none⟩), .pointer (some ⟨bv, 0, none⟩), .pointer (some ⟨bn, 0, none⟩), .pointer (some ⟨bg, 0, none⟩)]] 37 (0, 0))
theorem ChX.move {n k : Nat} {G : FuncId} {vcaps : Array Value} {bk bv bn bg : Nat} {S : Nat → Prop} {W W' : World} (h : ChX n k G vcaps bk bv bn bg W) (hf : Fr S W W') (h1 : ¬ S bk) (h2 : ¬ S bv) (h3 : ¬ S bn) (h4 : ¬ S bg) : ChX n k G vcaps bk bv bn bg W' :=
 ⟨hf.blk h.1 h1, hf.blk h.2.1 h2, hf.blk h.2.2.1 h3, hf.blk h.2.2.2 h4⟩
set_option maxHeartbeats 8000000 in
set_option maxRecDepth 100000 in
theorem choices_go (n k : Nat) (hk : k ≤ 1000) (hnn : n ≤ 1000) (G : FuncId) (fn : Func) (hG : Try.prog.funcs[G]? = some fn) (hname : (fn.name == "runtime.NumGoroutine") = false) (hbody : fn.body.isSome = true) (vcaps : Array Value) (p : List Int → Bool)
  (bk bv bn bg B : Nat) (S : Nat → Prop) (hS : ∀ i, S i → i < B) (q1 : ¬ S bk) (q2 : ¬ S bv) (q3 : ¬ S bn) (q4 : ¬ S bg) (Inv : List (List Int) → World → Prop) (hst : ∀ ds W W', Inv ds W → Below W.heap.size W W' → Inv ds W')
  (hv : ∀ l ∈ cmbs n k 0, ∀ ds W A c, Inv ds W → Ft S W A l → l.length ≤ c → B ≤ W.heap.size → Calls Try.prog G (#[.slice A l.length c] ++ vcaps) W fun e W' => e = .returned (.bool (p l)) ∧ Inv (ds ++ [l]) W' ∧ Fr S W W') :
  ∀ (r : Nat) (l : List Int) (i : Nat) (ds : List (List Int)) (W : World) (A : Option Addr) (c : Nat), l.length + r = k → (∀ x ∈ cmbs n r i, l ++ x ∈ cmbs n k 0) → Inv ds W → ChX n k G vcaps bk bv bn bg W → Ft S W A l → l.length ≤ c → (A = none → l = []) → B ≤ W.heap.size → i ≤ n →
   Calls Try.prog 109 #[.slice A l.length c, .int .i64 (i : Int), .pointer (some ⟨bk, 0, none⟩), .pointer (some ⟨bv, 0, none⟩), .pointer (some ⟨bn, 0, none⟩), .pointer (some ⟨bg, 0, none⟩)] W fun e W' =>
    e = .returned (.bool (((cmbs n r i).map fun x => l ++ x).any p)) ∧ Inv (ds ++ uptoT p ((cmbs n r i).map fun x => l ++ x)) W' ∧ Fr S W W' := by
 have HV := aM hv
 have HQ := aM (And.intro q1 (And.intro q2 (And.intro q3 q4)))
 have HS := aM hS
 have HST := aM hst
 clear hv q1 q2 q3 q4 hS hst
 intro r
 induction r with
 | zero =>
  intro l i ds W A c hl hm hi hx hft hc hA hB hin
  have HM := aM (hm [] (by simp [cmbs]))
  rw [List.append_nil] at HM
  have HI := aM hi
  have HF := aM hft
  have HA := aM hA
  have hck : W.cell? ⟨bk, 0, none⟩ = some (.int .i64 (k : Int)) := (bC hx.1 0).trans rfl
  have hcv : W.cell? ⟨bv, 0, none⟩ = some (.func (.func G) #[] vcaps) := (bC hx.2.1 0).trans rfl
  have c0 : ((l.length : Int) == (k : Int)) = true := beq_iff_eq.mpr (by omega)
  have hE := fun args W => enters_ hG hname hbody args W
  clear hm hi hx hft hA
  go_enter Try.func109, Try.ntmps109
  go_wp2_with (first | ((with_reducible refine (HV.out l HM.out ds W A c HI.out HF.out hc hB).mono ?_); rintro e w2 ⟨rfl, hi2, hf2⟩; have J1 := aM hi2; have J2 := aM hf2; clear hi2 hf2))
  go_ret
  have hu : uptoT p [l] = [l] := by simp [uptoT]
  exact ⟨by simp [cmbs], by simpa [cmbs, hu] using J1.out, J2.out⟩
 | succ r ih =>
  intro l i ds W A c hl hm hi hx hft hc hA hB hin
  have IH := aM ih
  have HM := aM hm
  have HI := aM hi
  have HF := aM hft
  have HA := aM hA
  have HX := aM hx
  have HIN := aM hin
  have hck : W.cell? ⟨bk, 0, none⟩ = some (.int .i64 (k : Int)) := (bC hx.1 0).trans rfl
  have c0 : ((l.length : Int) == (k : Int)) = false := beq_eq_false_iff_ne.mpr (by omega)
  clear ih hm hi hx hft hA hin
  go_enter Try.func109, Try.ntmps109
  go_wp2
  go_loopw [9] (fun v9 w' => ∃ (j : Nat) (L1 : List (List Int)), v9 = .int .i64 (j : Int) ∧ Aside0 (i ≤ j ∧ j ≤ n) ∧ Aside0 ((cmbs n (r + 1) i).map (fun x => l ++ x) = L1 ++ (cmbs n (r + 1) j).map (fun x => l ++ x)) ∧ Aside0 (L1.any p = false) ∧ Aside0 (Inv (ds ++ L1) w') ∧ Aside0 (Fr S W w')) (fun v9 _ => n - (intOf v9).toNat)
  case atStart => exact ⟨i, [], rfl, ⟨Nat.le_refl _, HIN.out⟩, ⟨rfl⟩, ⟨rfl⟩, ⟨by rw [List.append_nil]; exact HI.out⟩, ⟨Fr.refl S W⟩⟩
  case round =>
   clear HI
   obtain ⟨j, L1, rfl, HJ, HL, HP, HI, HF2⟩ := hrel
   have HX2 := aM (HX.out.move HF2.out HQ.out.1 HQ.out.2.1 HQ.out.2.2.1 HQ.out.2.2.2)
   have hcn : wr.cell? ⟨bn, 0, none⟩ = some (.int .i64 (n : Int)) := (bC HX2.out.2.2.1 0).trans rfl
   by_cases cc : j < n
   ·
    have c1 : decide ((j : Int) < (n : Int)) = true := decide_eq_true (by omega)
    have c2 : decide (j < n) = true := decide_eq_true cc
    have hll : l.length ≤ 1000000 := by omega
    have HLL := aM hll
    have hcl : l.length ≤ c := hc
    have hsl := slice_full (P := Try.prog) 27 Try.underlying27 info3 A l.length c hc (fun h => by rw [HA.out h]; rfl)
    have HC1 := aM ((HF.out.move HF2.out).now)
    have HJL := aM (show j + 1 ≤ n from cc)
    have HLR := aM hl
    have HBB := aM hB
    have hj1 : (j : Int) ≤ 1000 := by omega
    have h0j : (0 : Int) ≤ (j : Int) := by omega
    have HM2 := aM (show ∀ x ∈ cmbs n r (j + 1), (l ++ [(j : Int)]) ++ x ∈ cmbs n k 0 from fun x hx => by
     have h1 : l ++ ((j : Int) :: x) ∈ (cmbs n (r + 1) i).map (fun x => l ++ x) := by
      rw [HL.out, cmbs_step n r j cc]
      simp only [List.map_append, List.mem_append, List.map_map]
      exact Or.inr (Or.inl (List.mem_map.2 ⟨x, hx, rfl⟩))
     obtain ⟨y, hy, e⟩ := List.mem_map.1 h1
     have e2 : y = (j : Int) :: x := List.append_cancel_left e
     subst e2
     simpa using HM.out _ hy)
    have HS2 := aM (show (cmbs n (r + 1) j).map (fun x => l ++ x) = (cmbs n r (j + 1)).map (fun x => (l ++ [(j : Int)]) ++ x) ++ (cmbs n (r + 1) (j + 1)).map (fun x => l ++ x) by rw [cmbs_step n r j cc, List.map_append, List.map_map]; simp [Function.comp_def])
    clear hc hB hl hll
    go_wp2
    refine start_ (n := 13) (S := fun w' => w'.cell? ⟨bg, 0, none⟩ = some (.func (.func 109) #[] #[.pointer (some ⟨bk, 0, none⟩), .pointer (some ⟨bv, 0, none⟩), .pointer (some ⟨bn, 0, none⟩), .pointer (some ⟨bg, 0, none⟩)])) (ds := []) #[false, false, false, false, false, false, false, false, false, false, false, false, false] (by kernel_rfl) rfl rfl ((bC HX2.out.2.2.2 0).trans rfl) (fun hHeld => ?_)
    refine pure_ (i := 1) (N := some 24) (v := ?_) (a' := ?_) #[false, true, false, false, false, false, false, false, false, false, false, false, false] rfl rfl (by kernel_rfl) (fun _ _ _ h => h) (Or.inl ⟨by rfl, ?_⟩) ?_ ?_
    rotate_left
    ·
     intro w'
     go_simp
     with_reducible rfl
    rotate_left
    ·
     simp only [Act.put, sA, sZ, sU, i64_w, i32_w]
     rfl
    refine pure_ (i := 2) (N := some 25) (v := ?_) (a' := ?_) #[false, true, true, false, false, false, false, false, false, false, false, false, false] rfl rfl (by kernel_rfl) (fun _ _ _ h => h) (Or.inl ⟨by rfl, ?_⟩) ?_ ?_
    rotate_left
    ·
     intro w'
     go_simp
     with_reducible rfl
    rotate_left
    ·
     simp only [Act.put, sA, sZ, sU, i64_w, i32_w]
     rfl
    refine pure_ (i := 3) (N := some 26) (v := ?_) (a' := ?_) #[false, true, true, true, false, false, false, false, false, false, false, false, false] rfl rfl (by kernel_rfl) (fun _ _ _ h => h) (Or.inl ⟨by rfl, ?_⟩) ?_ ?_
    rotate_left
    ·
     intro w'
     go_simp
     with_reducible rfl
    rotate_left
    ·
     simp only [Act.put, sA, sZ, sU, i64_w, i32_w]
     rfl
    refine pure_ (i := 4) (N := some 27) (v := ?_) (a' := ?_) #[false, true, true, true, true, false, false, false, false, false, false, false, false] rfl rfl (by kernel_rfl) (fun _ _ _ h => h) (Or.inl ⟨by rfl, ?_⟩) ?_ ?_
    rotate_left
    ·
     intro w'
     go_simp
     with_reducible rfl
    rotate_left
    ·
     simp only [Act.put, sA, sZ, sU, i64_w, i32_w]
     rfl
    refine pure_ (i := 5) (N := some 28) (v := ?_) (a' := ?_) #[false, true, true, true, true, true, false, false, false, false, false, false, false] rfl rfl (by kernel_rfl) (fun _ _ _ h => h) (Or.inl ⟨by rfl, ?_⟩) ?_ ?_
    rotate_left
    ·
     intro w'
     go_simp
     with_reducible rfl
    rotate_left
    ·
     simp only [Act.put, sA, sZ, sU, i64_w, i32_w]
     rfl
    refine pure_ (i := 6) (N := some 29) (v := ?_) (a' := ?_) #[false, true, true, true, true, true, true, false, false, false, false, false, false] rfl rfl (by kernel_rfl) (fun _ _ _ h => h) (Or.inl ⟨by rfl, ?_⟩) ?_ ?_
    rotate_left
    ·
     intro w'
     go_simp
     with_reducible rfl
    rotate_left
    ·
     simp only [Act.put, sA, sZ, sU, i64_w, i32_w]
     rfl
    refine pure_ (i := 7) (N := some 30) (v := ?_) (a' := ?_) #[false, true, true, true, true, true, true, true, false, false, false, false, false] rfl rfl (by kernel_rfl) (fun _ _ _ h => h) (Or.inl ⟨by rfl, ?_⟩) ?_ ?_
    rotate_left
    ·
     intro w'
     go_simp
     with_reducible rfl
    rotate_left
    ·
     simp only [Act.put, sA, sZ, sU, i64_w, i32_w]
     rfl
    refine pure_ (i := 10) (N := some 33) (v := ?_) (a' := ?_) #[false, true, true, true, true, true, true, true, false, false, true, false, false] rfl rfl (by kernel_rfl) (fun _ _ _ h => h) (Or.inl ⟨by rfl, ?_⟩) ?_ ?_
    rotate_left
    ·
     intro w'
     go_simp
     with_reducible rfl
    rotate_left
    ·
     simp only [Act.put, sA, sZ, sU, i64_w, i32_w]
     rfl
    refine pure_ (i := 11) (N := some 34) (v := ?_) (a' := ?_) #[false, true, true, true, true, true, true, true, false, false, true, true, false] rfl rfl (by kernel_rfl) (fun _ _ _ h => h) (Or.inl ⟨by rfl, ?_⟩) ?_ ?_
    rotate_left
    ·
     intro w'
     go_simp
     with_reducible rfl
    rotate_left
    ·
     simp only [Act.put, sA, sZ, sU, i64_w, i32_w]
     rfl
    refine take_ (i := 0) (N := some 23) (v := ?_) (a' := ?_) #[true, true, true, true, true, true, true, true, false, false, true, true, false] rfl rfl (by kernel_rfl) (fun _ _ _ h => h) (Or.inl ⟨by rfl, ?_⟩) hHeld ?_ ?_
    rotate_left
    ·
     intro w' s0
     first | (go_simp; with_reducible rfl) | (simp only [add_plain] at s0; go_simp; with_reducible rfl)
    rotate_left
    ·
     simp only [Act.put, sA, sZ, sU, i64_w, i32_w]
     rfl
    refine one_ (i := 8) (N := some 31) #[true, true, true, true, true, true, true, true, true, false, true, true, false] rfl rfl (by kernel_rfl) (by decide) (fun K hK => ?_)
    refine value_ (w1 := ?_) (v := ?_) (by rfl) rfl ?_ ?_
    rotate_left 2
    ·
     go_simp
     constructor
     ·
      rfl
     ·
      rfl
    refine hK.out _ _ ((bC (((eA (Below.refl wr.heap.size wr) _).block bg (blk_lt HX2.out.2.2.2)).trans HX2.out.2.2.2) 0).trans rfl) (fun hHeld => ?_)
    clear hK K
    refine norm_ (a' := ?_) ?_ ?_
    rotate_left
    ·
     show Act.put _ (some 31) _ = _
     simp only [Act.put, sA, sZ, sU, i64_w, i32_w]
     rfl
    refine one_ (i := 9) (N := some 32) #[true, true, true, true, true, true, true, true, true, true, true, true, false] rfl rfl (by kernel_rfl) (by decide) (fun K hK => ?_)
    refine append_new_step (by rfl) rfl (.tmp 29) (.tmp 31) 27 3 rfl Try.underlying27 info3 A l (j : Int) HA.out rfl wr.heap.size (by apply eD; exact eA (Below.refl wr.heap.size wr) _) (heap_alloc_new wr _) rfl HC1.out HLL.out (fun v1 w1 hR hB1 => ?_)
    have HR := aM hR
    have HB1 := aM hB1
    have HX3 := aM (HX2.out.move (Fr.below (S := S) hB1) HQ.out.1 HQ.out.2.1 HQ.out.2.2.1 HQ.out.2.2.2)
    obtain ⟨A1, c1', rfl, hl1, hcc1⟩ := Kd.R_reads hR
    have HL1 := aM hl1
    clear hR hB1 hcc1 hl1
    refine hK.out _ _ ((bC HX3.out.2.2.2 0).trans rfl) (fun hHeld => ?_)
    clear hK K
    refine norm_ (a' := ?_) ?_ ?_
    rotate_left
    ·
     show Act.put _ (some 32) _ = _
     simp only [Act.put, sA, sZ, sU, i64_w, i32_w]
     rfl
    refine one_ (i := 12) (N := some 35) #[true, true, true, true, true, true, true, true, true, true, true, true, true] rfl rfl (by kernel_rfl) (by decide) (fun K hK => ?_)
    refine call_ 109 #[.slice A1 (l ++ [(j : Int)]).length c1', .int .i64 ((j + 1 : Nat) : Int), .pointer (some ⟨bk, 0, none⟩), .pointer (some ⟨bv, 0, none⟩), .pointer (some ⟨bn, 0, none⟩), .pointer (some ⟨bg, 0, none⟩)] (by rfl) rfl ?run_ ?_
    case run_ =>
     have he := enters_ (P := Try.prog) (w := w1) Try.func109 (by kernel_rfl) rfl #[.slice A1 (l ++ [(j : Int)]).length c1', .int .i64 ((j + 1 : Nat) : Int), .pointer (some ⟨bk, 0, none⟩), .pointer (some ⟨bv, 0, none⟩), .pointer (some ⟨bn, 0, none⟩), .pointer (some ⟨bg, 0, none⟩)]
     unfold execOp
     simp [resolve, Deferred.ofValue, invoke, Act.eval, he]
     unfold wrap64; omega
    with_reducible refine (IH.out (l ++ [(j : Int)]) (j + 1) (ds ++ L1) w1 A1 c1' ?s1 ?s2 ?s3 HX3.out ?s5 HL1.out ?s7 ?s8 HJL.out).mono ?_
    (case s1 => have := HLR.out; simp; omega)
    (case s2 => exact HM2.out)
    (case s3 => exact HST.out _ _ _ HI.out HB1.out)
    (case s5 => exact Ft.row HR.out (fun i hi => Nat.lt_of_lt_of_le (HS.out i hi) (Nat.le_trans HBB.out HF2.out.size)))
    (case s7 => intro h; subst h; exfalso; obtain ⟨ad, e, _⟩ := (Kd.R_reads' HR.out).2.2.2.2 (by simp); cases e)
    (case s8 => exact Nat.le_trans HBB.out (Nat.le_trans HF2.out.size (below_size HB1.out)))
    rintro e w2 ⟨rfl, hi2, hf2⟩
    refine ⟨_, rfl, ?_⟩
    have HI2 := aM hi2
    have HF3 := aM (HF2.out.trans ((Fr.below (S := S) HB1.out).trans hf2))
    clear hi2 hf2
    have HX4 := aM (HX.out.move HF3.out HQ.out.1 HQ.out.2.1 HQ.out.2.2.1 HQ.out.2.2.2)
    refine hK.out _ _ ((bC HX4.out.2.2.2 0).trans rfl) (fun hHeld => ?_)
    clear hK K
    refine norm_ (a' := ?_) ?_ ?_
    rotate_left
    ·
     show Act.put _ (some 35) _ = _
     simp only [Act.put, sA, sZ, sU, i64_w, i32_w]
     rfl
    refine done_ (by kernel_rfl) ?_
    have hany := HS2.out
    obtain ⟨b, hb⟩ : ∃ b, ((cmbs n r (j + 1)).map fun x => (l ++ [(j : Int)]) ++ x).any p = b := ⟨_, rfl⟩
    rw [hb]
    have HB := aM hb
    clear hb hany
    cases b with
    | true =>
     go_wp2
     go_ret
     refine ⟨?_, ?_, HF3.out⟩
     ·
      rw [HL.out, HS2.out, List.any_append, List.any_append, HB.out]; simp
     ·
      rw [HL.out, HS2.out, uptoT_no p _ _ HP.out, uptoT_yes p _ _ HB.out, ← List.append_assoc]; exact HI2.out
    | false =>
     go_wp2
     go_roundw
     case rel => exact ⟨j + 1, L1 ++ (cmbs n r (j + 1)).map (fun x => (l ++ [(j : Int)]) ++ x), by go_num, ⟨by have := HJ.out; omega, HJL.out⟩, ⟨by rw [HL.out, HS2.out, List.append_assoc]⟩, ⟨by rw [List.any_append, HP.out, HB.out]; rfl⟩, ⟨by rw [uptoT_all p _ HB.out] at HI2; rw [← List.append_assoc]; exact HI2.out⟩, HF3⟩
     case measure => have := HJL.out; simp [intOf]; omega
   ·
    have c1 : decide ((j : Int) < (n : Int)) = false := decide_eq_false (by omega)
    have c2 : decide (j < n) = false := decide_eq_false cc
    have e0 : cmbs n (r + 1) j = [] := cmbs_end n r j (by omega)
    have e1 := HL.out
    rw [e0, List.map_nil, List.append_nil] at e1
    have HL1 := aM e1
    clear e0 e1
    go_wp2
    go_ret
    exact ⟨by rw [HL1.out, HP.out]; rfl, by rw [HL1.out, uptoT_all p L1 HP.out]; exact HI.out, HF2.out⟩
theorem ch_store_func {P : Program} {w : World} (a : Addr) (m : Mode) (fn : Fn) (first captured : Array Value) : (store a (.func fn first captured) m).run P w = stored P w a (.func fn first captured) m := run_store P w a _ m rfl
attribute [local go_sem] ch_store_func
theorem Fr.fresh {S : Nat → Prop} {W W1 : World} {B : Nat} (h : Below B W W1) (hB : B = W.heap.size) : Fr S W W1 := by
 subst hB
 exact Fr.below h
set_option maxHeartbeats 8000000 in
set_option maxRecDepth 100000 in
theorem choices_calls (n k : Nat) (hk : k ≤ 1000) (hnn : n ≤ 1000) (G : FuncId) (fn : Func) (hG : Try.prog.funcs[G]? = some fn) (hname : (fn.name == "runtime.NumGoroutine") = false) (hbody : fn.body.isSome = true) (vcaps : Array Value) (p : List Int → Bool) (w : World)
  (S : Nat → Prop) (hS : ∀ i, S i → i < w.heap.size) (Inv : List (List Int) → World → Prop) (hst : ∀ ds W W', Inv ds W → Below W.heap.size W W' → Inv ds W') (h0 : Inv [] w)
  (hv : ∀ l ∈ cmbs n k 0, ∀ ds W A c, Inv ds W → Ft S W A l → l.length ≤ c → w.heap.size ≤ W.heap.size → Calls Try.prog G (#[.slice A l.length c] ++ vcaps) W fun e W' => e = .returned (.bool (p l)) ∧ Inv (ds ++ [l]) W' ∧ Fr S W W') :
  Calls Try.prog 83 #[.int .i64 (n : Int), .int .i64 (k : Int), .func (.func G) #[] vcaps] w fun e W' => e = .returned (.bool ((cmbs n k 0).any p)) ∧ Inv (uptoT p (cmbs n k 0)) W' ∧ Fr S w W' := by
 have HV := aM hv
 have HS := aM hS
 have HST := aM hst
 have H0 := aM h0
 clear hv hS hst h0
 have hE := fun args W => enters_ (P := Try.prog) (w := W) Try.func109 (by kernel_rfl) rfl args
 have hgo : ∀ W, Inv [] W → w.heap.size ≤ W.heap.size → ChX n k G vcaps (w.heap.size + 1) (w.heap.size + 1 + 1) w.heap.size (w.heap.size + 1 + 1 + 1) W →
   Calls Try.prog 109 #[.slice none 0 0, .int .i64 0, .pointer (some ⟨w.heap.size + 1, 0, none⟩), .pointer (some ⟨w.heap.size + 1 + 1, 0, none⟩), .pointer (some ⟨w.heap.size, 0, none⟩), .pointer (some ⟨w.heap.size + 1 + 1 + 1, 0, none⟩)] W fun e W' =>
    e = .returned (.bool ((cmbs n k 0).any p)) ∧ Inv (uptoT p (cmbs n k 0)) W' ∧ Fr S W W' := by
  intro W i0 hs hx
  have h := choices_go n k hk hnn G fn hG hname hbody vcaps p (w.heap.size + 1) (w.heap.size + 1 + 1) w.heap.size (w.heap.size + 1 + 1 + 1) w.heap.size S HS.out (fun h => by have := HS.out _ h; omega) (fun h => by have := HS.out _ h; omega) (fun h => by have := HS.out _ h; omega) (fun h => by have := HS.out _ h; omega) Inv HST.out HV.out k [] 0 [] W none 0 (by simp) (fun x hx => by simpa using hx) i0 hx (Ft.nil S W) (Nat.le_refl _) (fun _ => rfl) hs (Nat.zero_le _)
  have e1 : (cmbs n k 0).map (fun x => [] ++ x) = cmbs n k 0 := by simp
  rw [e1, List.nil_append] at h
  exact h
 have HGO := aM hgo
 clear hgo
 have h4 : ((((w.alloc (.cells #[.int .i64 (n : Int)] 3)).alloc (.cells #[.int .i64 (k : Int)] 3)).alloc (.cells #[.func (.func G) #[] vcaps] 65)).alloc (.cells #[(.func (.func 109) #[] #[.pointer (some ⟨w.heap.size + 1, 0, none⟩), .pointer (some ⟨w.heap.size + 1 + 1, 0, none⟩), .pointer (some ⟨w.heap.size, 0, none⟩), .pointer (some ⟨w.heap.size + 1 + 1 + 1, 0, none⟩)])] 37)).heap[w.heap.size + 1 + 1 + 1]? = some (.cells #[(.func (.func 109) #[] #[.pointer (some ⟨w.heap.size + 1, 0, none⟩), .pointer (some ⟨w.heap.size + 1 + 1, 0, none⟩), .pointer (some ⟨w.heap.size, 0, none⟩), .pointer (some ⟨w.heap.size + 1 + 1 + 1, 0, none⟩)])] 37 (0, 0)) := by simpa using blk_new (((w.alloc (.cells #[.int .i64 (n : Int)] 3)).alloc (.cells #[.int .i64 (k : Int)] 3)).alloc (.cells #[.func (.func G) #[] vcaps] 65)) (.cells #[(.func (.func 109) #[] #[.pointer (some ⟨w.heap.size + 1, 0, none⟩), .pointer (some ⟨w.heap.size + 1 + 1, 0, none⟩), .pointer (some ⟨w.heap.size, 0, none⟩), .pointer (some ⟨w.heap.size + 1 + 1 + 1, 0, none⟩)])] 37)
 have b0 := Below.refl w.heap.size w
 have HB4 := aM (show Below w.heap.size w ((((w.alloc (.cells #[.int .i64 (n : Int)] 3)).alloc (.cells #[.int .i64 (k : Int)] 3)).alloc (.cells #[.func (.func G) #[] vcaps] 65)).alloc (.cells #[(.func (.func 109) #[] #[.pointer (some ⟨w.heap.size + 1, 0, none⟩), .pointer (some ⟨w.heap.size + 1 + 1, 0, none⟩), .pointer (some ⟨w.heap.size, 0, none⟩), .pointer (some ⟨w.heap.size + 1 + 1 + 1, 0, none⟩)])] 37)) from eA (eA (eA (eA b0 _) _) _) _)
 have HX := aM (show ChX n k G vcaps (w.heap.size + 1) (w.heap.size + 1 + 1) w.heap.size (w.heap.size + 1 + 1 + 1) ((((w.alloc (.cells #[.int .i64 (n : Int)] 3)).alloc (.cells #[.int .i64 (k : Int)] 3)).alloc (.cells #[.func (.func G) #[] vcaps] 65)).alloc (.cells #[(.func (.func 109) #[] #[.pointer (some ⟨w.heap.size + 1, 0, none⟩), .pointer (some ⟨w.heap.size + 1 + 1, 0, none⟩), .pointer (some ⟨w.heap.size, 0, none⟩), .pointer (some ⟨w.heap.size + 1 + 1 + 1, 0, none⟩)])] 37)) from
  ⟨bA (bA (by simpa using blk_new (w.alloc _) _) _) _, bA (by simpa using blk_new ((w.alloc _).alloc _) _) _, bA (bA (bA (blk_new w _) _) _) _, h4⟩)
 clear h4 b0
 go_enter Try.func83, Try.ntmps83
 go_wp2_with (first | ((with_reducible refine (HGO.out _ (HST.out _ _ _ H0.out HB4.out) (below_size HB4.out) HX.out).mono ?_); rintro e w2 ⟨rfl, hi2, hf2⟩; have J1 := aM hi2; have J2 := aM ((Fr.below (S := S) HB4.out).trans hf2); clear hi2 hf2))
 go_ret
 exact ⟨rfl, J1.out, J2.out⟩
def impl_at.l0 : Nat → List Int → List Int → List Int → Int → Int → Option (List Int)
 | 0, _, _, _, _, _ => none
 | k + 1, x0, x5, x9, x10, x11 => if x11 < x10 then (if 0 ≤ x11 then (if x11 < (x9.length : Int) then (if 0 ≤ (rd x9 x11) then (if (rd x9 x11) < (x0.length : Int) then (if x5.length < 17592186044416 then (impl_at.l0 k x0 (x5 ++ [rd x0 (rd x9 x11)]) x9 x10 (wrap64 (x11 + 1))) else (none)) else (none)) else (none)) else (none)) else (none)) else (some x5)
def impl_at.f (k : Nat) (l0 : List Int) (l1 : List Int) : Option (List Int) := impl_at.l0 k l0 (([] : List Int)) l1 (l1.length : Int) 0
theorem impl_at.mono_l : ∀ k, (∀ y0 y1 y2 y3 y4, LeO (impl_at.l0 k y0 y1 y2 y3 y4) (impl_at.l0 (k + 1) y0 y1 y2 y3 y4))
 | 0 => fun _ _ _ _ _ r h => by simp [impl_at.l0] at h
 | k + 1 => by
  have ih0 := impl_at.mono_l k
  ·
   intro y0 y1 y2 y3 y4
   unfold impl_at.l0
   repeat' first
   | (with_reducible exact ih0 _ _ _ _ _)
   | (with_reducible exact LeO.refl _)
   | (with_reducible exact LeO.none _)
   | (with_reducible refine LeO.ite ?_ ?_)
   | (with_reducible refine LeO.bind ?_ (fun _ => ?_))
   | exact ih0 _ _ _ _ _
   | exact LeO.none _
   | refine LeO.ite ?_ ?_
   | refine LeO.bind ?_ (fun _ => ?_)
theorem impl_at.mono : ∀ a0 a1 k, LeO (impl_at.f k a0 a1) (impl_at.f (k + 1) a0 a1) := by
 intro a0 a1 k
 have ih0 := impl_at.mono_l k
 unfold impl_at.f
 repeat' first
   | (with_reducible exact ih0 _ _ _ _ _)
   | (with_reducible exact LeO.refl _)
   | (with_reducible exact LeO.none _)
   | (with_reducible refine LeO.ite ?_ ?_)
   | (with_reducible refine LeO.bind ?_ (fun _ => ?_))
   | exact ih0 _ _ _ _ _
   | exact LeO.none _
   | refine LeO.ite ?_ ?_
   | refine LeO.bind ?_ (fun _ => ?_)
set_option maxHeartbeats 8000000 in
set_option maxRecDepth 100000 in
theorem impl_at.calls (k : Nat) (A0 : Option Addr) (c0 : Nat) (l0 : List Int) (A1 : Option Addr) (c1 : Nat) (l1 : List Int) (r : List Int) (w : World) (hr0 : Kd.C (Kd.int .i64) w A0 l0.length l0) (hc0 : l0.length ≤ c0) (hr1 : Kd.C (Kd.int .i64) w A1 l1.length l1) (hc1 : l1.length ≤ c1) (h : impl_at.f k l0 l1 = some r) :
  Calls Try.prog 86 #[.slice A0 l0.length c0, .slice A1 l1.length c1] w fun e w' => ∃ v0_ : Value, e = .returned (v0_) ∧ Kd.R (Kd.int .i64) 3 w' w.heap.size (fun _ => True) v0_ r ∧ Below w.heap.size w w' := by
 have HR0 := aM hr0
 have HC0 := aM hc0
 clear hr0 hc0
 have HR1 := aM hr1
 have HC1 := aM hc1
 clear hr1 hc1
 have HB := aM (Below.refl w.heap.size w)
 have H : (impl_at.l0 k l0 (([] : List Int)) l1 (l1.length : Int) 0) = some r := h
 clear h
 obtain ⟨y212, hy212⟩ : ∃ y_ : List Int, y_ = (([] : List Int)) := ⟨_, rfl⟩
 replace H : (impl_at.l0 k l0 y212 l1 (l1.length : Int) 0) = some r := by first | (rw [hy212]; with_reducible exact H) | (have H2_ := (Option.bind_some _ _).symm.trans H; rw [hy212]; with_reducible exact H2_) | (have H2_ := (Option.bind_some _ _).symm.trans H; with_reducible exact H2_) | with_reducible exact H | (rw [hy212]; exact H) | exact H
 have Ny212 := aM hy212
 clear hy212
 have H' := aM H
 clear H
 go_enter Try.func86, Try.ntmps86
 go_wp2_with (first | ((with_reducible refine gate_dst (N := 8) rfl ?_); refine Kd.R_lit (Kd.int .i64) _ 3 ?hg (N := 8) ?hd (xs := ([] : List Int)) (inner := []) (ok := fun _ => True) (okp := fun _ => True) ?hr ?hp (fun _ hk => hk) trivial (Below.refl _ _) (Nat.le_refl _) (by simp) ?_; (case hd => rfl); (case hg => rfl); (case hr => first | (go_simp; done) | (go_simp; rfl)); (case hp => exact (Reps.none _ _)); intro v213 w3 ho4 hb hg_ hnew_; clear hg_ hnew_; (first | rw [← Ny212.out] at ho4 | (simp only [Int.reduceToNat] at ho4; rw [← Ny212.out] at ho4)); have n0_ := aM (Kd.R_lower ho4 (below_size (by repeat (first | (with_reducible first | exact HB.out | apply eA | apply eN | apply eD) | exact HB.out)))); have n1_ := aM (below_step (by repeat (first | (with_reducible first | exact HB.out | apply eA | apply eN | apply eD) | exact HB.out)) hb); clear HB; have HO214 := n0_; have HB := n1_; clear n0_ n1_; clear hb ho4))
 go_loopg [5, 11] k (fun kq v5 v11 w' => ∃ (x5_1 : List Int) (x11_1 : Int), v11 = .int .i64 x11_1 ∧ Aside0 (impl_at.l0 kq l0 x5_1 l1 (l1.length : Int) x11_1 = some r) ∧ Aside0 (kq ≤ k) ∧ Aside0 (Kd.R (Kd.int .i64) 3 w' w.heap.size (fun _ => True) v5 x5_1) ∧ Aside0 (Below w.heap.size w w'))
 case atStart => exact ⟨(y212), (0), (by first | rfl | (simp; done) | (simp [*]; done)), H', ⟨Nat.le_refl _⟩, ⟨by (with_reducible repeat (first | apply rA | apply rN | apply rD)); exact HO214.out⟩, ⟨by repeat (first | (with_reducible first | exact HB.out | apply eA | apply eN | apply eD) | exact HB.out)⟩⟩
 case round =>
  clear H'
  try clear c1; try clear p2
  obtain ⟨x5_1, x11_1, rfl, HA, HK1, HO_5, HB⟩ := hrel
  cases gk with
  | zero => exact absurd HA.out (by simp [impl_at.l0])
  | succ k1 =>
   have H := HA.out
   clear HA
   simp only [impl_at.l0] at H
   by_cases c5 : x11_1 < (l1.length : Int)
   ·
    rw [if_pos c5] at H
    have c5b0 : decide (x11_1 < (l1.length : Int)) = true := decide_eq_true c5
    clear c5
    by_cases c6 : 0 ≤ x11_1
    ·
     rw [if_pos c6] at H
     have c6b0 : decide (0 ≤ x11_1) = true := decide_eq_true c6
     clear c6
     by_cases c7 : x11_1 < (l1.length : Int)
     ·
      rw [if_pos c7] at H
      have c7b0 : decide (x11_1 < (l1.length : Int)) = true := decide_eq_true c7
      clear c7
      by_cases c8 : 0 ≤ (rd l1 x11_1)
      ·
       rw [if_pos c8] at H
       have c8b0 : decide (0 ≤ (rd l1 x11_1)) = true := decide_eq_true c8
       clear c8
       by_cases c9 : (rd l1 x11_1) < (l0.length : Int)
       ·
        rw [if_pos c9] at H
        have c9b0 : decide ((rd l1 x11_1) < (l0.length : Int)) = true := decide_eq_true c9
        clear c9
        by_cases c10 : x5_1.length < 17592186044416
        ·
         rw [if_pos c10] at H
         have LMc10 := aM c10
         clear c10
         obtain ⟨y217, hy217⟩ : ∃ y_ : List Int, y_ = (x5_1 ++ [rd l0 (rd l1 x11_1)]) := ⟨_, rfl⟩
         replace H : (impl_at.l0 k1 l0 y217 l1 (l1.length : Int) (wrap64 (x11_1 + 1))) = some r := by first | (rw [hy217]; with_reducible exact H) | (have H2_ := (Option.bind_some _ _).symm.trans H; rw [hy217]; with_reducible exact H2_) | (have H2_ := (Option.bind_some _ _).symm.trans H; with_reducible exact H2_) | with_reducible exact H | (rw [hy217]; exact H) | exact H
         have Ny217 := aM hy217
         clear hy217
         have H' := aM H
         clear H
         have p215 : 0 ≤ (x11_1 : Int) := of_decide_eq_true (by first | (with_reducible assumption) | assumption)
         have q215 : x11_1 < (l1.length : Int) := of_decide_eq_true (by first | (with_reducible assumption) | assumption)
         obtain ⟨ad215, e215, hx215_0⟩ := Kd.at_int HR1.out x11_1 p215 q215
         cases e215
         replace hx215_0 := (HB.out.cell (World.block_lt_of_cell? w _ hx215_0)).trans hx215_0
         replace p215 := eq_true p215
         replace q215 := eq_true q215
         have p216 : 0 ≤ ((rd l1 x11_1) : Int) := of_decide_eq_true (by first | (with_reducible assumption) | assumption)
         have q216 : (rd l1 x11_1) < (l0.length : Int) := of_decide_eq_true (by first | (with_reducible assumption) | assumption)
         obtain ⟨ad216, e216, hx216_0⟩ := Kd.at_int HR0.out (rd l1 x11_1) p216 q216
         cases e216
         replace hx216_0 := (HB.out.cell (World.block_lt_of_cell? w _ hx216_0)).trans hx216_0
         replace p216 := eq_true p216
         replace q216 := eq_true q216
         go_wp2_with (first | ((with_reducible refine gate_builtin (b := .append) (xs := #[.tmp 15, .tmp 20]) rfl ?_); at_builtin; refine Kd.R_append (Kd.int .i64) (w0 := w) w.heap.size rfl (.tmp 15) (.tmp 20) 27 3 (.int .i64 0) 8 rfl Try.underlying27 info3 rfl (by decide) (by omega) u5 x5_1 (rd l0 (rd l1 x11_1)) [.int .i64 (rd l0 (rd l1 x11_1))] (fun _ => True) (fun _ => False) rfl rfl ?aP (fun _ hk => hk.elim) ?aF ?aO ?aB ?aS ?aL ?_; (case aP => exact rfl); (case aB => exact (by repeat (first | (with_reducible first | exact HB.out | apply eA | apply eN | apply eD) | exact HB.out))); (case aF => exact (fun _ _ => trivial)); (case aO => exact (by (with_reducible repeat (first | apply rA | apply rN | apply rD)); exact HO_5.out)); (case aS => exact (below_size (by repeat (first | (with_reducible first | exact HB.out | apply eA | apply eN | apply eD) | exact HB.out)))); (case aL => have := LMc10.out; omega); intro v218 w11 ho hb hg hat; rw [← Ny217.out] at ho; have n0_ := aM (hb); have n1_ := aM (ho); clear HB; clear HO_5; have HB := n0_; have HO219 := n1_; clear n0_ n1_; clear ho hb hg hat))
         go_roundg k1
         case measure => have := HK1.out; omega
         case rel => exact ⟨(y217), (wrap64 (x11_1 + 1)), (by first | rfl | (simp; done) | (simp [*]; done)), H', ⟨by have := HK1.out; omega⟩, ⟨by (with_reducible repeat (first | apply rA | apply rN | apply rD)); exact HO219.out⟩, ⟨by repeat (first | (with_reducible first | exact HB.out | apply eA | apply eN | apply eD) | exact HB.out)⟩⟩
        ·
         rw [if_neg c10] at H
         exact absurd H (by simp)
       ·
        rw [if_neg c9] at H
        exact absurd H (by simp)
      ·
       rw [if_neg c8] at H
       exact absurd H (by simp)
     ·
      rw [if_neg c7] at H
      exact absurd H (by simp)
    ·
     rw [if_neg c6] at H
     exact absurd H (by simp)
   ·
    rw [if_neg c5] at H
    have c5b0 : decide (x11_1 < (l1.length : Int)) = false := decide_eq_false c5
    clear c5
    obtain rfl := Option.some.inj H
    go_wp2
    go_ret
    exact ⟨_, by first | rfl | (simp [errW_none, errW_some] <;> rfl) | (simp [*, errW_none, errW_some] <;> rfl), by (with_reducible repeat (first | apply rA | apply rN | apply rD)); exact HO_5.out, by repeat (first | (with_reducible first | exact HB.out | apply eA | apply eN | apply eD) | exact HB.out)⟩
def slices_Equal_int_int.l0 : Nat → List Int → List Int → Int → Int → Option (Bool)
 | 0, _, _, _, _ => none
 | k + 1, x0, x1, x12, x13 => if x13 < x12 then (if 0 ≤ x13 then (if x13 < (x0.length : Int) then (if x13 < (x1.length : Int) then (if (rd x0 x13) = (rd x1 x13) then (slices_Equal_int_int.l0 k x0 x1 x12 (wrap64 (x13 + 1))) else (some false)) else (none)) else (none)) else (none)) else (some true)
def slices_Equal_int_int.f (k : Nat) (l0 : List Int) (l1 : List Int) : Option (Bool) := if (l0.length : Int) = (l1.length : Int) then (slices_Equal_int_int.l0 k l0 l1 (l0.length : Int) 0) else (some false)
theorem slices_Equal_int_int.mono_l : ∀ k, (∀ y0 y1 y2 y3, LeO (slices_Equal_int_int.l0 k y0 y1 y2 y3) (slices_Equal_int_int.l0 (k + 1) y0 y1 y2 y3))
 | 0 => fun _ _ _ _ r h => by simp [slices_Equal_int_int.l0] at h
 | k + 1 => by
  have ih0 := slices_Equal_int_int.mono_l k
  ·
   intro y0 y1 y2 y3
   unfold slices_Equal_int_int.l0
   repeat' first
   | (with_reducible exact ih0 _ _ _ _)
   | (with_reducible exact LeO.refl _)
   | (with_reducible exact LeO.none _)
   | (with_reducible refine LeO.ite ?_ ?_)
   | (with_reducible refine LeO.bind ?_ (fun _ => ?_))
   | exact ih0 _ _ _ _
   | exact LeO.none _
   | refine LeO.ite ?_ ?_
   | refine LeO.bind ?_ (fun _ => ?_)
theorem slices_Equal_int_int.mono : ∀ a0 a1 k, LeO (slices_Equal_int_int.f k a0 a1) (slices_Equal_int_int.f (k + 1) a0 a1) := by
 intro a0 a1 k
 have ih0 := slices_Equal_int_int.mono_l k
 unfold slices_Equal_int_int.f
 repeat' first
   | (with_reducible exact ih0 _ _ _ _)
   | (with_reducible exact LeO.refl _)
   | (with_reducible exact LeO.none _)
   | (with_reducible refine LeO.ite ?_ ?_)
   | (with_reducible refine LeO.bind ?_ (fun _ => ?_))
   | exact ih0 _ _ _ _
   | exact LeO.none _
   | refine LeO.ite ?_ ?_
   | refine LeO.bind ?_ (fun _ => ?_)
set_option maxHeartbeats 8000000 in
set_option maxRecDepth 100000 in
theorem slices_Equal_int_int.calls (k : Nat) (A0 : Option Addr) (c0 : Nat) (l0 : List Int) (A1 : Option Addr) (c1 : Nat) (l1 : List Int) (r : Bool) (w : World) (hr0 : Kd.C (Kd.int .i64) w A0 l0.length l0) (hc0 : l0.length ≤ c0) (hr1 : Kd.C (Kd.int .i64) w A1 l1.length l1) (hc1 : l1.length ≤ c1) (h : slices_Equal_int_int.f k l0 l1 = some r) :
  Calls Try.prog 92 #[.slice A0 l0.length c0, .slice A1 l1.length c1] w fun e w' => e = .returned (.bool r) ∧ Drawn0 w w' := by
 have HR0 := aM hr0
 have HC0 := aM hc0
 clear hr0 hc0
 have HR1 := aM hr1
 have HC1 := aM hc1
 clear hr1 hc1
 have H : (if (l0.length : Int) = (l1.length : Int) then (slices_Equal_int_int.l0 k l0 l1 (l0.length : Int) 0) else (some false)) = some r := h
 clear h
 by_cases c3 : (l0.length : Int) = (l1.length : Int)
 ·
  rw [if_pos c3] at H
  have c3b0 : ((l0.length : Int) == (l1.length : Int)) = true := beq_iff_eq.mpr c3
  have c3b1 : ((l0.length : Int) != (l1.length : Int)) = false := bne_eq_false_iff_eq.mpr c3
  have c3b2 : (l0.length == l1.length) = true := by first | simpa using c3 | (simp at c3 ⊢; omega)
  clear c3
  have H' := aM H
  clear H
  go_enter Try.func92, Try.ntmps92
  go_wp2
  repeat (go_quiet (fail); try go_wp2)
  go_loopg [13] k (fun kq v13 w' => ∃ (x13_1 : Int), v13 = .int .i64 x13_1 ∧ Aside0 (slices_Equal_int_int.l0 kq l0 l1 (l0.length : Int) x13_1 = some r) ∧ Aside0 (kq ≤ k) ∧ Drawn0 w w')
  case atStart => exact ⟨(0), (by first | rfl | (simp; done) | (simp [*]; done)), H', ⟨Nat.le_refl _⟩, by repeat (first | exact Drawn0.refl _ | apply Drawn0.step)⟩
  case round =>
   clear H'
   try clear c1; try clear p2; try clear c3; try clear c3b0; try clear c3b1; try clear c3b2
   obtain ⟨x13_1, rfl, HA, HK1, ⟨m1, rfl⟩⟩ := hrel
   cases gk with
   | zero => exact absurd HA.out (by simp [slices_Equal_int_int.l0])
   | succ k1 =>
    have H := HA.out
    clear HA
    simp only [slices_Equal_int_int.l0] at H
    by_cases c4 : x13_1 < (l0.length : Int)
    ·
     rw [if_pos c4] at H
     have c4b0 : decide (x13_1 < (l0.length : Int)) = true := decide_eq_true c4
     clear c4
     by_cases c5 : 0 ≤ x13_1
     ·
      rw [if_pos c5] at H
      have c5b0 : decide (0 ≤ x13_1) = true := decide_eq_true c5
      clear c5
      by_cases c6 : x13_1 < (l0.length : Int)
      ·
       rw [if_pos c6] at H
       have c6b0 : decide (x13_1 < (l0.length : Int)) = true := decide_eq_true c6
       clear c6
       by_cases c7 : x13_1 < (l1.length : Int)
       ·
        rw [if_pos c7] at H
        have c7b0 : decide (x13_1 < (l1.length : Int)) = true := decide_eq_true c7
        clear c7
        by_cases c8 : (rd l0 x13_1) = (rd l1 x13_1)
        ·
         rw [if_pos c8] at H
         have c8b0 : ((rd l0 x13_1) == (rd l1 x13_1)) = true := beq_iff_eq.mpr c8
         have c8b1 : ((rd l0 x13_1) != (rd l1 x13_1)) = false := bne_eq_false_iff_eq.mpr c8
         clear c8
         have H' := aM H
         clear H
         have p220 : 0 ≤ (x13_1 : Int) := of_decide_eq_true (by first | (with_reducible assumption) | assumption)
         have q220 : x13_1 < (l0.length : Int) := of_decide_eq_true (by first | (with_reducible assumption) | assumption)
         obtain ⟨ad220, e220, hx220_0⟩ := Kd.at_int HR0.out x13_1 p220 q220
         cases e220
         replace p220 := eq_true p220
         replace q220 := eq_true q220
         have p221 : 0 ≤ (x13_1 : Int) := of_decide_eq_true (by first | (with_reducible assumption) | assumption)
         have q221 : x13_1 < (l1.length : Int) := of_decide_eq_true (by first | (with_reducible assumption) | assumption)
         obtain ⟨ad221, e221, hx221_0⟩ := Kd.at_int HR1.out x13_1 p221 q221
         cases e221
         replace p221 := eq_true p221
         replace q221 := eq_true q221
         go_wp2
         repeat (go_quiet (fail); try go_wp2)
         go_roundg k1
         case measure => have := HK1.out; omega
         case rel => exact ⟨(wrap64 (x13_1 + 1)), (by first | rfl | (simp; done) | (simp [*]; done)), H', ⟨by have := HK1.out; omega⟩, by repeat (first | exact Drawn0.refl _ | apply Drawn0.step)⟩
        ·
         rw [if_neg c8] at H
         have c8b0 : ((rd l0 x13_1) == (rd l1 x13_1)) = false := beq_eq_false_iff_ne.mpr c8
         have c8b1 : ((rd l0 x13_1) != (rd l1 x13_1)) = true := bne_iff_ne.mpr c8
         obtain rfl := Option.some.inj H
         have p220 : 0 ≤ (x13_1 : Int) := of_decide_eq_true (by first | (with_reducible assumption) | assumption)
         have q220 : x13_1 < (l0.length : Int) := of_decide_eq_true (by first | (with_reducible assumption) | assumption)
         obtain ⟨ad220, e220, hx220_0⟩ := Kd.at_int HR0.out x13_1 p220 q220
         cases e220
         replace p220 := eq_true p220
         replace q220 := eq_true q220
         have p221 : 0 ≤ (x13_1 : Int) := of_decide_eq_true (by first | (with_reducible assumption) | assumption)
         have q221 : x13_1 < (l1.length : Int) := of_decide_eq_true (by first | (with_reducible assumption) | assumption)
         obtain ⟨ad221, e221, hx221_0⟩ := Kd.at_int HR1.out x13_1 p221 q221
         cases e221
         replace p221 := eq_true p221
         replace q221 := eq_true q221
         go_wp2
         repeat (go_quiet (fail); try go_wp2)
         go_ret
         exact ⟨by first | rfl | (simp; done) | (simp [*]; done), by repeat (first | exact Drawn0.refl _ | apply Drawn0.step)⟩
       ·
        rw [if_neg c7] at H
        exact absurd H (by simp)
      ·
       rw [if_neg c6] at H
       exact absurd H (by simp)
     ·
      rw [if_neg c5] at H
      exact absurd H (by simp)
    ·
     rw [if_neg c4] at H
     have c4b0 : decide (x13_1 < (l0.length : Int)) = false := decide_eq_false c4
     clear c4
     obtain rfl := Option.some.inj H
     go_wp2
     repeat (go_quiet (fail); try go_wp2)
     go_ret
     exact ⟨by first | rfl | (simp; done) | (simp [*]; done), by repeat (first | exact Drawn0.refl _ | apply Drawn0.step)⟩
 ·
  rw [if_neg c3] at H
  have c3b0 : ((l0.length : Int) == (l1.length : Int)) = false := beq_eq_false_iff_ne.mpr c3
  have c3b1 : ((l0.length : Int) != (l1.length : Int)) = true := bne_iff_ne.mpr c3
  have c3b2 : (l0.length == l1.length) = false := by first | simpa using c3 | (simp at c3 ⊢; omega)
  obtain rfl := Option.some.inj H
  go_enter Try.func92, Try.ntmps92
  go_wp2
  repeat (go_quiet (fail); try go_wp2)
  go_ret
  exact ⟨by first | rfl | (simp; done) | (simp [*]; done), by repeat (first | exact Drawn0.refl _ | apply Drawn0.step)⟩
def impl_version.l0 : Nat → List Int → List Int → List Int → List (List Int) → Int → Int → Option (List Int)
 | 0, _, _, _, _, _, _ => none
 | k + 1, x1, x2, x7, x11, x12, x13 => if x13 < x12 then (if 0 ≤ x13 then (if x13 < (x11.length : Int) then ((impl_at.f k (rd_L2 x11 x13) x1).bind fun t226 => ((slices_Equal_int_int.f k t226 x2).bind fun t229 => (if t229 = true then (if x7.length < 17592186044416 then (impl_version.l0 k x1 x2 (x7 ++ [x13]) x11 x12 (wrap64 (x13 + 1))) else (none)) else (impl_version.l0 k x1 x2 x7 x11 x12 (wrap64 (x13 + 1)))))) else (none)) else (none)) else (some x7)
def impl_version.f (k : Nat) (l0 : List (List Int)) (l1 : List Int) (l2 : List Int) : Option (List Int) := impl_version.l0 k l1 l2 (([] : List Int)) l0 (l0.length : Int) 0
theorem impl_version.mono_l : ∀ k, (∀ y0 y1 y2 y3 y4 y5, LeO (impl_version.l0 k y0 y1 y2 y3 y4 y5) (impl_version.l0 (k + 1) y0 y1 y2 y3 y4 y5))
 | 0 => fun _ _ _ _ _ _ r h => by simp [impl_version.l0] at h
 | k + 1 => by
  have ih0 := impl_version.mono_l k
  ·
   intro y0 y1 y2 y3 y4 y5
   unfold impl_version.l0
   repeat' first
   | (with_reducible exact ih0 _ _ _ _ _ _)
   | (with_reducible exact impl_at.mono _ _ _)
   | (with_reducible exact slices_Equal_int_int.mono _ _ _)
   | (with_reducible exact LeO.refl _)
   | (with_reducible exact LeO.none _)
   | (with_reducible refine LeO.ite ?_ ?_)
   | (with_reducible refine LeO.bind ?_ (fun _ => ?_))
   | exact ih0 _ _ _ _ _ _
   | exact impl_at.mono _ _ _
   | exact slices_Equal_int_int.mono _ _ _
   | exact LeO.none _
   | refine LeO.ite ?_ ?_
   | refine LeO.bind ?_ (fun _ => ?_)
theorem impl_version.mono : ∀ a0 a1 a2 k, LeO (impl_version.f k a0 a1 a2) (impl_version.f (k + 1) a0 a1 a2) := by
 intro a0 a1 a2 k
 have ih0 := impl_version.mono_l k
 unfold impl_version.f
 repeat' first
   | (with_reducible exact ih0 _ _ _ _ _ _)
   | (with_reducible exact impl_at.mono _ _ _)
   | (with_reducible exact slices_Equal_int_int.mono _ _ _)
   | (with_reducible exact LeO.refl _)
   | (with_reducible exact LeO.none _)
   | (with_reducible refine LeO.ite ?_ ?_)
   | (with_reducible refine LeO.bind ?_ (fun _ => ?_))
   | exact ih0 _ _ _ _ _ _
   | exact impl_at.mono _ _ _
   | exact slices_Equal_int_int.mono _ _ _
   | exact LeO.none _
   | refine LeO.ite ?_ ?_
   | refine LeO.bind ?_ (fun _ => ?_)
set_option maxHeartbeats 8000000 in
set_option maxRecDepth 100000 in
theorem impl_version.calls (k : Nat) (A0 : Option Addr) (c0 : Nat) (l0 : List (List Int)) (A1 : Option Addr) (c1 : Nat) (l1 : List Int) (A2 : Option Addr) (c2 : Nat) (l2 : List Int) (r : List Int) (w : World) (hr0 : Kd.C (Kd.slice 3 (Kd.int .i64)) w A0 l0.length l0) (hc0 : l0.length ≤ c0) (hr1 : Kd.C (Kd.int .i64) w A1 l1.length l1) (hc1 : l1.length ≤ c1) (hr2 : Kd.C (Kd.int .i64) w A2 l2.length l2) (hc2 : l2.length ≤ c2) (h : impl_version.f k l0 l1 l2 = some r) :
  Calls Try.prog 51 #[.slice A0 l0.length c0, .slice A1 l1.length c1, .slice A2 l2.length c2] w fun e w' => ∃ v0_ : Value, e = .returned (v0_) ∧ Kd.R (Kd.int .i64) 3 w' w.heap.size (fun _ => True) v0_ r ∧ Below w.heap.size w w' := by
 have HR0 := aM hr0
 have HC0 := aM hc0
 clear hr0 hc0
 have HR1 := aM hr1
 have HC1 := aM hc1
 clear hr1 hc1
 have HR2 := aM hr2
 have HC2 := aM hc2
 clear hr2 hc2
 have HB := aM (Below.refl w.heap.size w)
 have H : (impl_version.l0 k l1 l2 (([] : List Int)) l0 (l0.length : Int) 0) = some r := h
 clear h
 obtain ⟨y222, hy222⟩ : ∃ y_ : List Int, y_ = (([] : List Int)) := ⟨_, rfl⟩
 replace H : (impl_version.l0 k l1 l2 y222 l0 (l0.length : Int) 0) = some r := by first | (rw [hy222]; with_reducible exact H) | (have H2_ := (Option.bind_some _ _).symm.trans H; rw [hy222]; with_reducible exact H2_) | (have H2_ := (Option.bind_some _ _).symm.trans H; with_reducible exact H2_) | with_reducible exact H | (rw [hy222]; exact H) | exact H
 have Ny222 := aM hy222
 clear hy222
 have H' := aM H
 clear H
 go_enter Try.func51, Try.ntmps51
 go_wp2_with (first | ((with_reducible refine gate_dst (N := 10) rfl ?_); refine Kd.R_lit (Kd.int .i64) _ 3 ?hg (N := 10) ?hd (xs := ([] : List Int)) (inner := []) (ok := fun _ => True) (okp := fun _ => True) ?hr ?hp (fun _ hk => hk) trivial (Below.refl _ _) (Nat.le_refl _) (by simp) ?_; (case hd => rfl); (case hg => rfl); (case hr => first | (go_simp; done) | (go_simp; rfl)); (case hp => exact (Reps.none _ _)); intro v223 w4 ho5 hb hg_ hnew_; clear hg_ hnew_; (first | rw [← Ny222.out] at ho5 | (simp only [Int.reduceToNat] at ho5; rw [← Ny222.out] at ho5)); have n0_ := aM (Kd.R_lower ho5 (below_size (by repeat (first | (with_reducible first | exact HB.out | apply eA | apply eN | apply eD) | exact HB.out)))); have n1_ := aM (below_step (by repeat (first | (with_reducible first | exact HB.out | apply eA | apply eN | apply eD) | exact HB.out)) hb); clear HB; have HO224 := n0_; have HB := n1_; clear n0_ n1_; clear hb ho5))
 go_loopg [7, 13] k (fun kq v7 v13 w' => ∃ (x7_1 : List Int) (x13_1 : Int), v13 = .int .i64 x13_1 ∧ Aside0 (impl_version.l0 kq l1 l2 x7_1 l0 (l0.length : Int) x13_1 = some r) ∧ Aside0 (kq ≤ k) ∧ Aside0 (Kd.R (Kd.int .i64) 3 w' w.heap.size (fun _ => True) v7 x7_1) ∧ Aside0 (Below w.heap.size w w'))
 case atStart => exact ⟨(y222), (0), (by first | rfl | (simp; done) | (simp [*]; done)), H', ⟨Nat.le_refl _⟩, ⟨by (with_reducible repeat (first | apply rA | apply rN | apply rD)); exact HO224.out⟩, ⟨by repeat (first | (with_reducible first | exact HB.out | apply eA | apply eN | apply eD) | exact HB.out)⟩⟩
 case round =>
  clear H'
  try clear c1; try clear c2; try clear p2; try clear c5
  obtain ⟨x7_1, x13_1, rfl, HA, HK1, HO_7, HB⟩ := hrel
  cases gk with
  | zero => exact absurd HA.out (by simp [impl_version.l0])
  | succ k1 =>
   have H := HA.out
   clear HA
   simp only [impl_version.l0] at H
   by_cases c6 : x13_1 < (l0.length : Int)
   ·
    rw [if_pos c6] at H
    have c6b0 : decide (x13_1 < (l0.length : Int)) = true := decide_eq_true c6
    clear c6
    by_cases c7 : 0 ≤ x13_1
    ·
     rw [if_pos c7] at H
     have c7b0 : decide (0 ≤ x13_1) = true := decide_eq_true c7
     clear c7
     by_cases c8 : x13_1 < (l0.length : Int)
     ·
      rw [if_pos c8] at H
      have c8b0 : decide (x13_1 < (l0.length : Int)) = true := decide_eq_true c8
      clear c8
      replace H := oB.mp H
      obtain ⟨t226, A90, H⟩ := H
      replace H : ((slices_Equal_int_int.f k1 t226 l2).bind fun t229 => (if t229 = true then (if x7_1.length < 17592186044416 then (impl_version.l0 k1 l1 l2 (x7_1 ++ [x13_1]) l0 (l0.length : Int) (wrap64 (x13_1 + 1))) else (none)) else (impl_version.l0 k1 l1 l2 x7_1 l0 (l0.length : Int) (wrap64 (x13_1 + 1))))) = some r := H
      have A9 := aM A90
      clear A90
      replace H := oB.mp H
      obtain ⟨t229, A100, H⟩ := H
      replace H : (if t229 = true then (if x7_1.length < 17592186044416 then (impl_version.l0 k1 l1 l2 (x7_1 ++ [x13_1]) l0 (l0.length : Int) (wrap64 (x13_1 + 1))) else (none)) else (impl_version.l0 k1 l1 l2 x7_1 l0 (l0.length : Int) (wrap64 (x13_1 + 1)))) = some r := H
      have A10 := aM A100
      clear A100
      by_cases c11 : t229 = true
      ·
       subst c11
       have H1 : (if x7_1.length < 17592186044416 then (impl_version.l0 k1 l1 l2 (x7_1 ++ [x13_1]) l0 (l0.length : Int) (wrap64 (x13_1 + 1))) else (none)) = some r := by rw [if_pos rfl] at H; exact H
       clear H
       have H := H1
       clear H1
       by_cases c12 : x7_1.length < 17592186044416
       ·
        rw [if_pos c12] at H
        have LMc12 := aM c12
        clear c12
        obtain ⟨y230, hy230⟩ : ∃ y_ : List Int, y_ = (x7_1 ++ [x13_1]) := ⟨_, rfl⟩
        replace H : (impl_version.l0 k1 l1 l2 y230 l0 (l0.length : Int) (wrap64 (x13_1 + 1))) = some r := by first | (rw [hy230]; with_reducible exact H) | (have H2_ := (Option.bind_some _ _).symm.trans H; rw [hy230]; with_reducible exact H2_) | (have H2_ := (Option.bind_some _ _).symm.trans H; with_reducible exact H2_) | with_reducible exact H | (rw [hy230]; exact H) | exact H
        have Ny230 := aM hy230
        clear hy230
        have H' := aM H
        clear H
        have p225 : 0 ≤ (x13_1 : Int) := of_decide_eq_true (by first | (with_reducible assumption) | assumption)
        have q225 : x13_1 < (l0.length : Int) := of_decide_eq_true (by first | (with_reducible assumption) | assumption)
        obtain ⟨ad225, A225_0, c225_0, e225, hx225_0, hl225_0, hi225_0⟩ := at_L2 HR0.out x13_1 p225 q225
        cases e225
        replace hx225_0 := (HB.out.cell (World.block_lt_of_cell? w _ hx225_0)).trans hx225_0
        have HR225_0 := aM hi225_0
        have HC225_0 := aM hl225_0
        clear hi225_0 hl225_0
        replace p225 := eq_true p225
        replace q225 := eq_true q225
        go_wp2_with (first | ((with_reducible refine gate_callee (f := 86) rfl ?_); refine goesL_ (some 20) rfl rfl Try.func86 (by kernel_rfl) rfl #[.slice A225_0 (rd_L2 l0 x13_1).length c225_0, .slice A1 l1.length c1] rfl (by (try simp only [List.map_toArray, List.map_cons, List.map_nil]); first | done | rfl | (simp only [List.length_drop, List.length_take]; rfl)) ?_; (with_reducible refine (impl_at.calls k1 _ _ (rd_L2 l0 x13_1) _ _ l1 t226 _ ?side1 ?side2 ?side3 ?side4 A9.out).mono ?_); (case side1 => repeat (first | exact (Kd.C_below HR225_0.out HB.out) | (with_reducible refine Kd.C_alloc ?_ _) | (with_reducible refine Kd.C_drewN ?_ _) | (with_reducible refine Kd.C_drew ?_))); (case side2 => exact HC225_0.out); (case side3 => repeat (first | exact (Kd.C_below HR1.out HB.out) | (with_reducible refine Kd.C_alloc ?_ _) | (with_reducible refine Kd.C_drewN ?_ _) | (with_reducible refine Kd.C_drew ?_))); (case side4 => exact HC1.out); rintro e w13 ⟨v227, rfl, ho0, hb⟩; refine ⟨_, rfl, ?_⟩; have n0_ := aM (Kd.R_elder' (by (with_reducible repeat (first | apply rA | apply rN | apply rD)); exact HO_7.out) (Kd.R_base ho0) hb); have n1_ := aM (Kd.R_lower (Kd.R_new' ho0 (Kd.R_lt (by (with_reducible repeat (first | apply rA | apply rN | apply rD)); exact HO_7.out))) (below_size (by repeat (first | (with_reducible first | exact HB.out | apply eA | apply eN | apply eD) | exact HB.out)))); have n2_ := aM (below_step (by repeat (first | (with_reducible first | exact HB.out | apply eA | apply eN | apply eD) | exact HB.out)) hb); clear HO_7; clear HB; have HO_7 := n0_; have HO228 := n1_; have HB := n2_; clear n0_ n1_ n2_; (try clear hb); (try clear hb2); (try clear hk); (try clear hi); (try clear ho0); obtain ⟨Ao14, co14, eo14⟩ := Kd.R_slice HO228.out; subst eo14) | ((with_reducible refine gate_callee (f := 92) rfl ?_); refine goesL_ (some 22) rfl rfl Try.func92 (by kernel_rfl) rfl #[.slice Ao14 t226.length co14, .slice A2 l2.length c2] rfl (by (try simp only [List.map_toArray, List.map_cons, List.map_nil]); first | done | rfl | (simp only [List.length_drop, List.length_take]; rfl)) ?_; (with_reducible refine (slices_Equal_int_int.calls k1 _ _ t226 _ _ l2 true _ ?side1 ?side2 ?side3 ?side4 A10.out).mono ?_); (case side1 => repeat (first | exact (Kd.R_reads' HO228.out).2.2 | (with_reducible refine Kd.C_alloc ?_ _) | (with_reducible refine Kd.C_drewN ?_ _) | (with_reducible refine Kd.C_drew ?_))); (case side2 => exact (Kd.R_reads' HO228.out).2.1); (case side3 => repeat (first | exact (Kd.C_below HR2.out HB.out) | (with_reducible refine Kd.C_alloc ?_ _) | (with_reducible refine Kd.C_drewN ?_ _) | (with_reducible refine Kd.C_drew ?_))); (case side4 => exact HC2.out); rintro e w' ⟨rfl, ⟨nd, rfl⟩⟩; refine ⟨_, rfl, ?_⟩) | ((with_reducible refine gate_builtin (b := .append) (xs := #[.tmp 23, .tmp 25]) rfl ?_); at_builtin; refine Kd.R_append (Kd.int .i64) (w0 := w) w.heap.size rfl (.tmp 23) (.tmp 25) 27 3 (.int .i64 0) 8 rfl Try.underlying27 info3 rfl (by decide) (by omega) u7 x7_1 x13_1 [.int .i64 x13_1] (fun k_ => some k_ ≠ (.slice Ao14 t226.length co14 : Value).ownBlock) (fun _ => False) rfl rfl ?aP (fun _ hk => hk.elim) ?aF ?aO ?aB ?aS ?aL ?_; (case aP => exact rfl); (case aB => exact (by repeat (first | (with_reducible first | exact HB.out | apply eA | apply eN | apply eD) | exact HB.out))); (case aF => exact (fun k_ hk => Kd.fresh' (Kd.R_lt (by (with_reducible repeat (first | apply rA | apply rN | apply rD)); exact HO228.out)) k_ hk)); (case aO => exact (by (with_reducible repeat (first | apply rA | apply rN | apply rD)); exact rM HO_7.out (fun _ hk => hk.2))); (case aS => exact (below_size (by repeat (first | (with_reducible first | exact HB.out | apply eA | apply eN | apply eD) | exact HB.out)))); (case aL => have := LMc12.out; omega); intro v231 w15 ho hb hg hat; rw [← Ny230.out] at ho; have n0_ := aM (Kd.R_after (ok := (fun _ => True)) (by (with_reducible repeat (first | apply rA | apply rN | apply rD)); exact HO228.out) hg hat); have n1_ := aM (hb); have n2_ := aM (ho); clear HO228; clear HB; clear HO_7; have HO228 := n0_; have HB := n1_; have HO232 := n2_; clear n0_ n1_ n2_; clear ho hb hg hat))
        go_roundg k1
        case measure => have := HK1.out; omega
        case rel => exact ⟨(y230), (wrap64 (x13_1 + 1)), (by first | rfl | (simp; done) | (simp [*]; done)), H', ⟨by have := HK1.out; omega⟩, ⟨by (with_reducible repeat (first | apply rA | apply rN | apply rD)); exact rM HO232.out (fun _ hk => trivial)⟩, ⟨by repeat (first | (with_reducible first | exact HB.out | apply eA | apply eN | apply eD) | exact HB.out)⟩⟩
       ·
        rw [if_neg c12] at H
        exact absurd H (by simp)
      ·
       replace c11 := Bool.eq_false_iff.mpr c11
       subst c11
       have H1 : (impl_version.l0 k1 l1 l2 x7_1 l0 (l0.length : Int) (wrap64 (x13_1 + 1))) = some r := by rw [if_neg (show ¬ (false = true) by decide)] at H; exact H
       clear H
       have H := H1
       clear H1
       have H' := aM H
       clear H
       have p225 : 0 ≤ (x13_1 : Int) := of_decide_eq_true (by first | (with_reducible assumption) | assumption)
       have q225 : x13_1 < (l0.length : Int) := of_decide_eq_true (by first | (with_reducible assumption) | assumption)
       obtain ⟨ad225, A225_0, c225_0, e225, hx225_0, hl225_0, hi225_0⟩ := at_L2 HR0.out x13_1 p225 q225
       cases e225
       replace hx225_0 := (HB.out.cell (World.block_lt_of_cell? w _ hx225_0)).trans hx225_0
       have HR225_0 := aM hi225_0
       have HC225_0 := aM hl225_0
       clear hi225_0 hl225_0
       replace p225 := eq_true p225
       replace q225 := eq_true q225
       go_wp2_with (first | ((with_reducible refine gate_callee (f := 86) rfl ?_); refine goesL_ (some 20) rfl rfl Try.func86 (by kernel_rfl) rfl #[.slice A225_0 (rd_L2 l0 x13_1).length c225_0, .slice A1 l1.length c1] rfl (by (try simp only [List.map_toArray, List.map_cons, List.map_nil]); first | done | rfl | (simp only [List.length_drop, List.length_take]; rfl)) ?_; (with_reducible refine (impl_at.calls k1 _ _ (rd_L2 l0 x13_1) _ _ l1 t226 _ ?side1 ?side2 ?side3 ?side4 A9.out).mono ?_); (case side1 => repeat (first | exact (Kd.C_below HR225_0.out HB.out) | (with_reducible refine Kd.C_alloc ?_ _) | (with_reducible refine Kd.C_drewN ?_ _) | (with_reducible refine Kd.C_drew ?_))); (case side2 => exact HC225_0.out); (case side3 => repeat (first | exact (Kd.C_below HR1.out HB.out) | (with_reducible refine Kd.C_alloc ?_ _) | (with_reducible refine Kd.C_drewN ?_ _) | (with_reducible refine Kd.C_drew ?_))); (case side4 => exact HC1.out); rintro e w16 ⟨v227, rfl, ho0, hb⟩; refine ⟨_, rfl, ?_⟩; have n0_ := aM (Kd.R_elder' (by (with_reducible repeat (first | apply rA | apply rN | apply rD)); exact HO_7.out) (Kd.R_base ho0) hb); have n1_ := aM (Kd.R_lower (Kd.R_new' ho0 (Kd.R_lt (by (with_reducible repeat (first | apply rA | apply rN | apply rD)); exact HO_7.out))) (below_size (by repeat (first | (with_reducible first | exact HB.out | apply eA | apply eN | apply eD) | exact HB.out)))); have n2_ := aM (below_step (by repeat (first | (with_reducible first | exact HB.out | apply eA | apply eN | apply eD) | exact HB.out)) hb); clear HO_7; clear HB; have HO_7 := n0_; have HO228 := n1_; have HB := n2_; clear n0_ n1_ n2_; (try clear hb); (try clear hb2); (try clear hk); (try clear hi); (try clear ho0); obtain ⟨Ao17, co17, eo17⟩ := Kd.R_slice HO228.out; subst eo17) | ((with_reducible refine gate_callee (f := 92) rfl ?_); refine goesL_ (some 22) rfl rfl Try.func92 (by kernel_rfl) rfl #[.slice Ao17 t226.length co17, .slice A2 l2.length c2] rfl (by (try simp only [List.map_toArray, List.map_cons, List.map_nil]); first | done | rfl | (simp only [List.length_drop, List.length_take]; rfl)) ?_; (with_reducible refine (slices_Equal_int_int.calls k1 _ _ t226 _ _ l2 false _ ?side1 ?side2 ?side3 ?side4 A10.out).mono ?_); (case side1 => repeat (first | exact (Kd.R_reads' HO228.out).2.2 | (with_reducible refine Kd.C_alloc ?_ _) | (with_reducible refine Kd.C_drewN ?_ _) | (with_reducible refine Kd.C_drew ?_))); (case side2 => exact (Kd.R_reads' HO228.out).2.1); (case side3 => repeat (first | exact (Kd.C_below HR2.out HB.out) | (with_reducible refine Kd.C_alloc ?_ _) | (with_reducible refine Kd.C_drewN ?_ _) | (with_reducible refine Kd.C_drew ?_))); (case side4 => exact HC2.out); rintro e w' ⟨rfl, ⟨nd, rfl⟩⟩; refine ⟨_, rfl, ?_⟩))
       go_roundg k1
       case measure => have := HK1.out; omega
       case rel => exact ⟨(x7_1), (wrap64 (x13_1 + 1)), (by first | rfl | (simp; done) | (simp [*]; done)), H', ⟨by have := HK1.out; omega⟩, ⟨by (with_reducible repeat (first | apply rA | apply rN | apply rD)); exact rM HO_7.out (fun _ hk => trivial)⟩, ⟨by repeat (first | (with_reducible first | exact HB.out | apply eA | apply eN | apply eD) | exact HB.out)⟩⟩
     ·
      rw [if_neg c8] at H
      exact absurd H (by simp)
    ·
     rw [if_neg c7] at H
     exact absurd H (by simp)
   ·
    rw [if_neg c6] at H
    have c6b0 : decide (x13_1 < (l0.length : Int)) = false := decide_eq_false c6
    clear c6
    obtain rfl := Option.some.inj H
    go_wp2
    go_ret
    exact ⟨_, by first | rfl | (simp [errW_none, errW_some] <;> rfl) | (simp [*, errW_none, errW_some] <;> rfl), by (with_reducible repeat (first | apply rA | apply rN | apply rD)); exact HO_7.out, by repeat (first | (with_reducible first | exact HB.out | apply eA | apply eN | apply eD) | exact HB.out)⟩
def impl_copied.f (l0 : List Int) : Option (List Int) := (some (([] : List Int) : List Int)).bind fun y233 => (if y233.length + l0.length < 17592186044416 then (some (y233 ++ l0)) else (none))
set_option maxHeartbeats 8000000 in
set_option maxRecDepth 100000 in
theorem impl_copied.calls (A0 : Option Addr) (c0 : Nat) (l0 : List Int) (r : List Int) (w : World) (hr0 : Kd.C (Kd.int .i64) w A0 l0.length l0) (hc0 : l0.length ≤ c0) (h : impl_copied.f l0 = some r) :
  Calls Try.prog 85 #[.slice A0 l0.length c0] w fun e w' => ∃ v0_ : Value, e = .returned (v0_) ∧ Kd.R (Kd.int .i64) 3 w' w.heap.size (fun _ => True) v0_ r ∧ Below w.heap.size w w' := by
 have HR0 := aM hr0
 have HC0 := aM hc0
 clear hr0 hc0
 have HB := aM (Below.refl w.heap.size w)
 have H : ((some (([] : List Int) : List Int)).bind fun y233 => (if y233.length + l0.length < 17592186044416 then (some (y233 ++ l0)) else (none))) = some r := h
 clear h
 obtain ⟨y233, hy233⟩ : ∃ y_ : List Int, y_ = (([] : List Int)) := ⟨_, rfl⟩
 replace H : (if y233.length + l0.length < 17592186044416 then (some (y233 ++ l0)) else (none)) = some r := by first | (rw [hy233]; with_reducible exact H) | (have H2_ := (Option.bind_some _ _).symm.trans H; rw [hy233]; with_reducible exact H2_) | (have H2_ := (Option.bind_some _ _).symm.trans H; with_reducible exact H2_) | with_reducible exact H | (rw [hy233]; exact H) | exact H
 have Ny233 := aM hy233
 clear hy233
 by_cases c2 : y233.length + l0.length < 17592186044416
 ·
  rw [if_pos c2] at H
  have LMc2 := aM c2
  clear c2
  obtain ⟨y236, hy236⟩ : ∃ y_ : List Int, y_ = (y233 ++ l0) := ⟨_, rfl⟩
  replace H : (some y236) = some r := by first | (rw [hy236]; with_reducible exact H) | (have H2_ := (Option.bind_some _ _).symm.trans H; rw [hy236]; with_reducible exact H2_) | (have H2_ := (Option.bind_some _ _).symm.trans H; with_reducible exact H2_) | with_reducible exact H | (rw [hy236]; exact H) | exact H
  have Ny236 := aM hy236
  clear hy236
  obtain rfl := Option.some.inj H
  go_enter Try.func85, Try.ntmps85
  go_wp2_with (first | ((with_reducible refine gate_dst (N := 3) rfl ?_); refine Kd.R_lit (Kd.int .i64) _ 3 ?hg (N := 3) ?hd (xs := ([] : List Int)) (inner := []) (ok := fun _ => True) (okp := fun _ => True) ?hr ?hp (fun _ hk => hk) trivial (Below.refl _ _) (Nat.le_refl _) (by simp) ?_; (case hd => rfl); (case hg => rfl); (case hr => first | (go_simp; done) | (go_simp; rfl)); (case hp => exact (Reps.none _ _)); intro v234 w3 ho4 hb hg_ hnew_; clear hg_ hnew_; (first | rw [← Ny233.out] at ho4 | (simp only [Int.reduceToNat] at ho4; rw [← Ny233.out] at ho4)); have n0_ := aM (Kd.R_lower ho4 (below_size (by repeat (first | (with_reducible first | exact HB.out | apply eA | apply eN | apply eD) | exact HB.out)))); have n1_ := aM (below_step (by repeat (first | (with_reducible first | exact HB.out | apply eA | apply eN | apply eD) | exact HB.out)) hb); clear HB; have HO235 := n0_; have HB := n1_; clear n0_ n1_; clear hb ho4) | ((with_reducible refine gate_builtin (b := .append) (xs := #[.tmp 3, .tmp 4]) rfl ?_); at_builtin; refine Kd.R_append_rows (Kd.int .i64) (w0 := w) w.heap.size rfl (.tmp 3) (.tmp 4) 27 3 (.int .i64 0) 8 rfl Try.underlying27 info3 rfl (by decide) (by omega) v234 y233 l0 _ _ _ (fun _ => True) (fun _ => False) rfl rfl ?aO ?aR (fun _ _ h => h) (fun _ h => h.elim) ?aF ?aB ?aS ?aL ?_; (case aR => repeat (first | exact (Kd.C_below HR0.out HB.out) | (with_reducible refine Kd.C_alloc ?_ _) | (with_reducible refine Kd.C_drewN ?_ _) | (with_reducible refine Kd.C_drew ?_))); (case aB => exact (by repeat (first | (with_reducible first | exact HB.out | apply eA | apply eN | apply eD) | exact HB.out))); (case aF => exact (fun _ _ => trivial)); (case aO => exact (by (with_reducible repeat (first | apply rA | apply rN | apply rD)); exact HO235.out)); (case aS => exact (below_size (by repeat (first | (with_reducible first | exact HB.out | apply eA | apply eN | apply eD) | exact HB.out)))); (case aL => have := LMc2.out; omega); intro v237 w5 ho hb hg hat; rw [← Ny236.out] at ho; have n0_ := aM (hb); have n1_ := aM (ho); clear HB; clear HO235; have HB := n0_; have HO238 := n1_; clear n0_ n1_; clear ho hb hg hat))
  go_ret
  exact ⟨_, by first | rfl | (simp [errW_none, errW_some] <;> rfl) | (simp [*, errW_none, errW_some] <;> rfl), by (with_reducible repeat (first | apply rA | apply rN | apply rD)); exact HO238.out, by repeat (first | (with_reducible first | exact HB.out | apply eA | apply eN | apply eD) | exact HB.out)⟩
 ·
  rw [if_neg c2] at H
  exact absurd H (by simp)
end Go.Proofs.Ytlbleemoiabmdaa.PFnTeaching
