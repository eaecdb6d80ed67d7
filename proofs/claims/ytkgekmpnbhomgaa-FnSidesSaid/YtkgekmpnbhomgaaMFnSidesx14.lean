-- Laid for this claim by a program of the session's own (wip/tool/myprint.py).
import Derived.Test.YtkgekmpnbhomgaaMFnSidesx9
namespace Go.Proofs.Ytkgekmpnbhomgaa.PFnSides
open Go.RowKit Go.Proofs.YtkgekmpnbhomgaaW.PrintWords Go.Proofs.YtkgekmpnbhomgaaW.PrintLast Go.Proofs.YtkgekmpnbhomgaaW.PrintMore
attribute [local go_sem] max2_int min2_int max_two min_two max_three min_three max_four min_four
set_option linter.unusedVariables false
set_option maxHeartbeats 8000000
set_option maxRecDepth 100000
set_option linter.unusedSimpArgs false
def spec_IsPoint.f (k : Nat) (l0 : List Int) : Option (Bool) := (spec_l2Point.f k l0).bind fun t548 => (some t548)
theorem spec_IsPoint.calls (k : Nat) (A0 : Option Addr) (c0 : Nat) (l0 : List Int) (r : Bool) (w : World) (hr0 : Kd.C (Kd.int .i64) w A0 l0.length l0) (hc0 : l0.length ≤ c0) (h : spec_IsPoint.f k l0 = some r) :
    Calls Try.prog 34 #[.slice A0 l0.length c0] w fun e w' => e = .returned (.bool r) ∧ Drawn0 w w' := by
  have HR0 := aM hr0; have HC0 := aM hc0; clear hr0 hc0; have H : ((spec_l2Point.f k l0).bind fun t548 => (some t548)) = some r := h; clear h; replace H := oA H; obtain ⟨t548, A2, H⟩ := H; obtain rfl := Option.some.inj H; go_enter Try.func34, Try.ntmps34; go_wp2_with (first | (refine yL 4 Try.func81 #[.slice A0 l0.length c0] ?_; (with_reducible refine (spec_l2Point.calls k _ _ l0 t548 _ (xC HR0.out) HC0.out A2.out).mono ?_); rintro e w' ⟨rfl, ⟨nd, rfl⟩⟩; refine ⟨_, rfl, ?_⟩)); go_ret; exact ⟨yZ, yDn⟩
def spec_IsSample.f (k : Nat) (l0_0 : List (List Int)) (l0_1 : List Int) : Option (Bool) := (spec_l2Sample.f k l0_0 l0_1).bind fun t550 => (some t550)
theorem spec_IsSample.calls (k : Nat) (A0_0 : Option Addr) (c0_0 : Nat) (l0_0 : List (List Int)) (A0_1 : Option Addr) (c0_1 : Nat) (l0_1 : List Int) (r : Bool) (w : World) (hr0_0 : Kd.C (Kd.slice 3 (Kd.int .i64)) w A0_0 l0_0.length l0_0) (hc0_0 : l0_0.length ≤ c0_0) (hr0_1 : Kd.C (Kd.int .i64) w A0_1 l0_1.length l0_1) (hc0_1 : l0_1.length ≤ c0_1) (h : spec_IsSample.f k l0_0 l0_1 = some r) :
    Calls Try.prog 36 #[.agg #[.slice A0_0 l0_0.length c0_0, .slice A0_1 l0_1.length c0_1]] w fun e w' => e = .returned (.bool r) ∧ Below w.heap.size w w' := by
  have hu36 := Try.underlying36; have HR0_0 := aM hr0_0; have HC0_0 := aM hc0_0; clear hr0_0 hc0_0; have HR0_1 := aM hr0_1; have HC0_1 := aM hc0_1; clear hr0_1 hc0_1; have HB := aM (Below.refl w.heap.size w); have H : ((spec_l2Sample.f k l0_0 l0_1).bind fun t550 => (some t550)) = some r := h; clear h; replace H := oA H; obtain ⟨t550, A2, H⟩ := H; obtain rfl := Option.some.inj H; go_enter Try.func36, Try.ntmps36; go_wp2_with (first | (refine yB 1 #[.slice A0_0 l0_0.length c0_0, .slice A0_1 l0_1.length c0_1] 36 ?_; intro gb549 hg w3 hbox hb; have BK549 := aM (hbox); have GW549 := yV0 hg HB; have GE549 := yV0 hg HB; replace HB := yS0 HB hb; clear hb hbox hg; obtain ⟨hcz4_0, hcz4_1, hfz4_0, hfz4_1⟩ := yD2 BK549) | (refine yL 4 Try.func83 #[.agg #[.slice A0_0 l0_0.length c0_0, .slice A0_1 l0_1.length c0_1]] ?_; (with_reducible refine (spec_l2Sample.calls k _ _ l0_0 _ _ l0_1 t550 _ (xC (Kd.C_below HR0_0.out HB.out)) HC0_0.out (xC (Kd.C_below HR0_1.out HB.out)) HC0_1.out A2.out).mono ?_); rintro e w5 ⟨rfl, hb⟩; refine ⟨_, rfl, ?_⟩; replace BK549 := yK BK549 hb; replace HB := yS1 HB GE549 hb; (try clear hb))); go_ret; exact ⟨yF, xG1 HB.out GE549.out⟩
def cmbs (n : Nat) : Nat → Nat → List (List Int)
  | 0, _ => [[]]
  | r + 1, i => (List.range' i (n - i)).flatMap fun j => (cmbs n r (j + 1)).map fun c => (j : Int) :: c
def uptoT (p : List Int → Bool) : List (List Int) → List (List Int)
  | [] => []
  | x :: l => if p x = true then [x] else x :: uptoT p l
theorem uptoT_yes (p : List Int → Bool) : ∀ A B : List (List Int), A.any p = true → uptoT p (A ++ B) = uptoT p A := by
 intro A
 induction A with
 | nil => intro B h; simp at h
 | cons x A ih =>
  intro B h; simp only [List.cons_append, uptoT]; by_cases c : p x = true
  · rw [if_pos c, if_pos c]
  · rw [if_neg c, if_neg c, ih B (by simpa [c] using h)]
theorem uptoT_no (p : List Int → Bool) : ∀ A B : List (List Int), A.any p = false → uptoT p (A ++ B) = A ++ uptoT p B := by
  intro A
  induction A with
  | nil => intro B _; rfl
  | cons x A ih =>
    intro B h; rw [List.any_cons, Bool.or_eq_false_iff] at h; simp only [List.cons_append, uptoT]; rw [if_neg (by rw [h.1]; decide), ih B h.2]
theorem uptoT_all (p : List Int → Bool) (A : List (List Int)) (h : A.any p = false) : uptoT p A = A := by
  have := uptoT_no p A [] h
  simpa [uptoT] using this
theorem cmbs_len (n : Nat) : ∀ r i, ∀ c ∈ cmbs n r i, c.length = r := by
  intro r
  induction r with
  | zero => intro i c hc; simp [cmbs] at hc; subst hc; rfl
  | succ r ih =>
    intro i c hc; simp only [cmbs, List.mem_flatMap, List.mem_map] at hc; obtain ⟨j, _, d, hd, rfl⟩ := hc; simp [ih _ d hd]
theorem cmbs_step (n r i : Nat) (h : i < n) : cmbs n (r + 1) i = (cmbs n r (i + 1)).map (fun c => (i : Int) :: c) ++ cmbs n (r + 1) (i + 1) := by
  simp only [cmbs]; rw [show n - i = n - (i + 1) + 1 by omega, List.range'_succ, List.flatMap_cons]
theorem cmbs_end (n r i : Nat) (h : n ≤ i) : cmbs n (r + 1) i = [] := by
  simp only [cmbs]; rw [show n - i = 0 by omega]; rfl
theorem append_new_step {P : Program} {ops : Array Oper} {o : Oper} {N : Option Tmp} {a : Act} {Q : Exit → Act → World → Prop} {K : Act → World → Prop} {W W1 : World} (hw : Region.wanted o (yielded ops a.tmps) = true) (hN : o.dst = N) (s x : Operand) (t e : TypeId)
    (ho : o.op = .call { callee := .builtin .append, args := #[s, x], argTypes := #[t, t] }) (ht : P.underlying t = some (.slice e)) (hinfo : (P.info? e).map (fun i => (i.zero, i.size, i.bytes)) = some (some (.int .i64 0), 1, 8))
    (A : Option Addr) (xs : List Int) (y : Int) (hn : A = none → xs = []) (hs : a.eval s = .slice A xs.length xs.length) (g : Nat) (hB0 : Below W.heap.size W W1) (hgx : W1.heap[g]? = some (.cells #[.int .i64 y] e (0, 0))) (hx : a.eval x = .slice (some ⟨g, 0, none⟩) 1 1) (hC : Kd.C (Kd.int .i64) W A xs.length xs) (hl : xs.length ≤ 1000000)
    (h : ∀ v1 w1, Kd.R (Kd.int .i64) e w1 W.heap.size (fun _ => True) v1 (xs ++ [y]) → Below W.heap.size W w1 → K (a.put N v1) w1) :
    if Region.wanted o (yielded ops a.tmps) = true then Oper.wp P o a W1 K Q else K (a.put N undef) W1 := by
  subst hN; obtain ⟨i0, hi, hzz⟩ := Option.map_eq_some_iff.1 hinfo; simp only [Prod.mk.injEq] at hzz; obtain ⟨hz0, hz1, hz2⟩ := hzz; rw [if_pos hw]
  have hnew : ∀ j u, ([Value.int .i64 y])[j]? = some u → W1.cell? ((⟨g, 0, none⟩ : Addr).add j) = some u := by
    simpa using World.news_of_block (cs := #[Value.int .i64 y]) (t := e) (fr := (0, 0)) hgx
  have hrun : ∃ v1 w1, (Builtin.append_ #[t, t] o.type #[.slice A xs.length xs.length, .slice (some ⟨g, 0, none⟩) 1 1]).run P W1 = .ok v1 w1 ∧ w1.ownsRow W1.heap.size e 1 v1 (xs.length + 1) (nums .i64 xs ++ [.int .i64 y]) ∧ W1.grownBy w1 none := by
    rcases A with _ | ad
    · obtain rfl := hn rfl; obtain ⟨v', w', hr, r1, r2, _⟩ := run_append_own (P := P) W1 W1.heap.size t o.type e i0 (.int .i64 0) 1 8 ht hi hz0 hz1 hz2 rfl (by decide) (.slice none 0 0) 0 [] (World.ownsRow_nil _ _ e 1) ⟨g, 0, none⟩ 1 1 [.int .i64 y] (by simp) hnew (by simp [Value.oneCell']) (by simp [maxLen]) (by omega) (Nat.le_refl _); exact ⟨v', w', hr, by simpa [nums] using r1, by simpa [Value.ownBlock] using r2⟩
    · refine run_append_arg_grows (P := P) W1 t o.type e i0 (.int .i64 0) 1 8 ht hi hz0 hz1 hz2 rfl (by decide) ad xs.length xs.length (nums .i64 xs) (by simp [nums]) (fun j u hu => ?_) ⟨g, 0, none⟩ 1 1 [.int .i64 y] (by simp) hnew (by omega) (by simp only [maxLen]; omega) (by omega)
      have hj : j < xs.length := by
        rcases Nat.lt_or_ge j xs.length with h | h
        · exact h
        · simp [nums, List.getElem?_eq_none h] at hu
      obtain ⟨ad', e1, hc⟩ := Kd.at_int hC (j : Int) (by omega) (by omega); cases e1
      rw [Int.toNat_natCast] at hc; have hc2 := (hB0.cell (World.block_lt_of_cell? W _ hc)).trans hc; rw [hc2]; simp [nums, List.getElem?_eq_getElem hj] at hu; subst hu; simp [rd, List.getD_eq_getElem?_getD, List.getElem?_eq_getElem hj]
  obtain ⟨v1, w1, hr, hown, hg⟩ := hrun; unfold Oper.wp execOp; simp only [ho, resolve, invoke, builtin, Sem.run_bind, Sem.run_pure, Result.andThen_ok, List.map_toArray, List.map_cons, List.map_nil, hs, hx, hr]; refine h v1 w1 (Kd.R_of_own (own_weaken (by simpa [nums, encs] using hown) (below_size hB0)) (fun _ _ => trivial)) ?_; exact hB0.grown hg (below_size hB0) (fun k hk => by cases hk)
theorem slice_full {P : Program} (t : TypeId) {e : TypeId} {α : Type} {z : α} {F : TypeInfo → α} (ht : P.underlying t = some (.slice e)) (hinfo : (P.info? e).map F = some z) (A : Option Addr) (n c : Nat) (hn : n ≤ c) (h : A = none → n = 0) :
    ∀ W : World, (Instr.slice t (.slice A n c) none (some (.int .i64 (n : Int))) (some (.int .i64 (n : Int)))).run P W = .ok (.slice A n n) W := by
  intro W; obtain ⟨i, hi, _⟩ := Option.map_eq_some_iff.1 hinfo; have hel : P.elem t = e := by simp [Program.elem, ht]
  have hu : P.underlying t = some (.slice (P.elem t)) := by rw [hel]; exact ht
  rw [run_slice_hm W t A n c hu .i64 .i64 (n : Int) (n : Int) (by omega) (by omega) (by omega), hel]; simp [sizeOf, typeInfo, hi, sliced, Result.andThen]; intro _; cases A <;> simp [Addr.add]
def Fr (S : Nat → Prop) (W W' : World) : Prop := Below 0 W W' ∧ ∀ i, i < W.heap.size → ¬ S i → W'.heap[i]? = W.heap[i]?
theorem Fr.size {S : Nat → Prop} {W W1 : World} (h : Fr S W W1) : W.heap.size ≤ W1.heap.size := h.1.size
theorem Fr.refl (S : Nat → Prop) (W : World) : Fr S W W := ⟨Below.refl 0 W, fun _ _ _ => rfl⟩
theorem Fr.trans {S : Nat → Prop} {W W1 W2 : World} (h : Fr S W W1) (k : Fr S W1 W2) : Fr S W W2 :=
  ⟨⟨k.1.os.trans h.1.os, k.1.tape.trans h.1.tape, k.1.output.trans h.1.output, Nat.le_trans h.1.size k.1.size, fun i hi => absurd hi (Nat.not_lt_zero i)⟩, fun i hi hs => (k.2 i (Nat.lt_of_lt_of_le hi h.1.size) hs).trans (h.2 i hi hs)⟩
theorem Fr.below {S : Nat → Prop} {W W1 : World} (h : Below W.heap.size W W1) : Fr S W W1 := ⟨⟨h.os, h.tape, h.output, h.size, fun i hi => absurd hi (Nat.not_lt_zero i)⟩, fun i hi _ => h.block i hi⟩
theorem Fr.onto {S : Nat → Prop} {w W W1 : World} (f : Fr S W W1) (h : Below w.heap.size w W) (hS : ∀ i, S i → w.heap.size ≤ i) : Below w.heap.size w W1 :=
  ⟨f.1.os.trans h.os, f.1.tape.trans h.tape, f.1.output.trans h.output, Nat.le_trans h.size f.1.size, fun i hi => (f.2 i (Nat.lt_of_lt_of_le hi h.size) (fun hs => by have := hS i hs; omega)).trans (h.block i hi)⟩
theorem Fr.blk {S : Nat → Prop} {W W1 : World} {g : Nat} {o : Obj} (h : Fr S W W1) (hb : W.heap[g]? = some o) (hs : ¬ S g) : W1.heap[g]? = some o := (h.2 g (blk_lt hb) hs).trans hb
def Ft (S : Nat → Prop) (W : World) (A : Option Addr) (l : List Int) : Prop := ∀ W', Fr S W W' → Kd.C (Kd.int .i64) W' A l.length l
theorem Ft.now {S : Nat → Prop} {W : World} {A : Option Addr} {l : List Int} (h : Ft S W A l) : Kd.C (Kd.int .i64) W A l.length l := h W (Fr.refl S W)
theorem Ft.move {S : Nat → Prop} {W W1 : World} {A : Option Addr} {l : List Int} (h : Ft S W A l) (k : Fr S W W1) : Ft S W1 A l := fun W' h' => h W' (k.trans h')
theorem Ft.nil (S : Nat → Prop) (W : World) : Ft S W none [] := fun W' _ => Kd.C_nil _ W'
theorem Ft.row {S : Nat → Prop} {W : World} {B : Nat} {A : Option Addr} {c : Nat} {l : List Int} (h : Kd.R (Kd.int .i64) 3 W B (fun _ => True) (.slice A l.length c) l) (hS : ∀ i, S i → i < B) : Ft S W A l := by
  intro W' hf; have h1 := rM (ok' := fun k => B ≤ k ∧ k < W.heap.size) (Kd.R_bound h) (fun k hk => ⟨hk.2.1, hk.2.2.1⟩); have h2 := Kd.R_move h1 (w1 := W') (fun k hk => hf.2 k hk.2 (fun hs => by have := hS k hs; omega)); obtain ⟨A', c', e, _, hc⟩ := Kd.R_reads h2; injection e with e1 e2 e3; rw [e1]; exact hc
def ChX (n k : Nat) (G : FuncId) (vcaps : Array Value) (bk bv bn bg : Nat) (W : World) : Prop :=
  W.heap[bk]? = some (.cells #[.int .i64 (k : Int)] 3 (0, 0)) ∧ W.heap[bv]? = some (.cells #[.func (.func G) #[] vcaps] 52 (0, 0)) ∧ W.heap[bn]? = some (.cells #[.int .i64 (n : Int)] 3 (0, 0)) ∧
    W.heap[bg]? = some (.cells #[.func (.func 121) #[] #[.pointer (some ⟨bk, 0, none⟩), .pointer (some ⟨bv, 0, none⟩), .pointer (some ⟨bn, 0, none⟩), .pointer (some ⟨bg, 0, none⟩)]] 55 (0, 0))
theorem ChX.move {n k : Nat} {G : FuncId} {vcaps : Array Value} {bk bv bn bg : Nat} {S : Nat → Prop} {W W' : World} (h : ChX n k G vcaps bk bv bn bg W) (hf : Fr S W W') (h1 : ¬ S bk) (h2 : ¬ S bv) (h3 : ¬ S bn) (h4 : ¬ S bg) : ChX n k G vcaps bk bv bn bg W' :=
  ⟨hf.blk h.1 h1, hf.blk h.2.1 h2, hf.blk h.2.2.1 h3, hf.blk h.2.2.2 h4⟩
theorem choices_go (n k : Nat) (hk : k ≤ 1000) (hnn : n ≤ 1000) (G : FuncId) (fn : Func) (hG : Try.prog.funcs[G]? = some fn) (hname : (fn.name == "runtime.NumGoroutine") = false) (hbody : fn.body.isSome = true) (vcaps : Array Value) (p : List Int → Bool)
    (bk bv bn bg B : Nat) (S : Nat → Prop) (hS : ∀ i, S i → i < B) (q1 : ¬ S bk) (q2 : ¬ S bv) (q3 : ¬ S bn) (q4 : ¬ S bg) (Inv : List (List Int) → World → Prop) (hst : ∀ ds W W', Inv ds W → Below W.heap.size W W' → Inv ds W')
    (hv : ∀ l ∈ cmbs n k 0, ∀ ds W A c, Inv ds W → Ft S W A l → l.length ≤ c → B ≤ W.heap.size → Calls Try.prog G (#[.slice A l.length c] ++ vcaps) W fun e W' => e = .returned (.bool (p l)) ∧ Inv (ds ++ [l]) W' ∧ Fr S W W') :
    ∀ (r : Nat) (l : List Int) (i : Nat) (ds : List (List Int)) (W : World) (A : Option Addr) (c : Nat), l.length + r = k → (∀ x ∈ cmbs n r i, l ++ x ∈ cmbs n k 0) → Inv ds W → ChX n k G vcaps bk bv bn bg W → Ft S W A l → l.length ≤ c → (A = none → l = []) → B ≤ W.heap.size → i ≤ n →
      Calls Try.prog 121 #[.slice A l.length c, .int .i64 (i : Int), .pointer (some ⟨bk, 0, none⟩), .pointer (some ⟨bv, 0, none⟩), .pointer (some ⟨bn, 0, none⟩), .pointer (some ⟨bg, 0, none⟩)] W fun e W' =>
        e = .returned (.bool (((cmbs n r i).map fun x => l ++ x).any p)) ∧ Inv (ds ++ uptoT p ((cmbs n r i).map fun x => l ++ x)) W' ∧ Fr S W W' := by
 have HV := aM hv; have HQ := aM (And.intro q1 (And.intro q2 (And.intro q3 q4))); have HS := aM hS; have HST := aM hst; clear hv q1 q2 q3 q4 hS hst; intro r
 induction r with
 | zero =>
  intro l i ds W A c hl hm hi hx hft hc hA hB hin; have HM := aM (hm [] (by simp [cmbs])); rw [List.append_nil] at HM; have HI := aM hi; have HF := aM hft; have HA := aM hA; have hck : W.cell? ⟨bk, 0, none⟩ = some (.int .i64 (k : Int)) := (bC hx.1 0).trans rfl; have hcv : W.cell? ⟨bv, 0, none⟩ = some (.func (.func G) #[] vcaps) := (bC hx.2.1 0).trans rfl; have c0 : ((l.length : Int) == (k : Int)) = true := beq_iff_eq.mpr (by omega); have hE := fun args W => enters_ hG hname hbody args W; clear hm hi hx hft hA; go_enter Try.func121, Try.ntmps121; go_wp2_with (first | ((with_reducible refine (HV.out l HM.out ds W A c HI.out HF.out hc hB).mono ?_); rintro e w2 ⟨rfl, hi2, hf2⟩; have J1 := aM hi2; have J2 := aM hf2; clear hi2 hf2)); go_ret; have hu : uptoT p [l] = [l] := by simp [uptoT]
  exact ⟨by simp [cmbs], by simpa [cmbs, hu] using J1.out, J2.out⟩
 | succ r ih =>
  intro l i ds W A c hl hm hi hx hft hc hA hB hin; have IH := aM ih; have HM := aM hm; have HI := aM hi; have HF := aM hft; have HA := aM hA; have HX := aM hx; have HIN := aM hin; have hck : W.cell? ⟨bk, 0, none⟩ = some (.int .i64 (k : Int)) := (bC hx.1 0).trans rfl; have c0 : ((l.length : Int) == (k : Int)) = false := beq_eq_false_iff_ne.mpr (by omega); clear ih hm hi hx hft hA hin; go_enter Try.func121, Try.ntmps121; go_wp2; go_loopw [9] (fun v9 w' => ∃ (j : Nat) (L1 : List (List Int)), v9 = .int .i64 (j : Int) ∧ Aside0 (i ≤ j ∧ j ≤ n) ∧ Aside0 ((cmbs n (r + 1) i).map (fun x => l ++ x) = L1 ++ (cmbs n (r + 1) j).map (fun x => l ++ x)) ∧ Aside0 (L1.any p = false) ∧ Aside0 (Inv (ds ++ L1) w') ∧ Aside0 (Fr S W w')) (fun v9 _ => n - (intOf v9).toNat); case atStart => exact ⟨i, [], rfl, ⟨Nat.le_refl _, HIN.out⟩, ⟨rfl⟩, ⟨rfl⟩, ⟨by rw [List.append_nil]; exact HI.out⟩, ⟨Fr.refl S W⟩⟩
  case round =>
   clear HI; obtain ⟨j, L1, rfl, HJ, HL, HP, HI, HF2⟩ := hrel; have HX2 := aM (HX.out.move HF2.out HQ.out.1 HQ.out.2.1 HQ.out.2.2.1 HQ.out.2.2.2); have hcn : wr.cell? ⟨bn, 0, none⟩ = some (.int .i64 (n : Int)) := (bC HX2.out.2.2.1 0).trans rfl; by_cases cc : j < n
   ·
    have c1 : decide ((j : Int) < (n : Int)) = true := decide_eq_true (by omega); have c2 : decide (j < n) = true := decide_eq_true cc; have hll : l.length ≤ 1000000 := by omega
    have HLL := aM hll; have hcl : l.length ≤ c := hc; have hsl := slice_full (P := Try.prog) 24 Try.underlying24 info3 A l.length c hc (fun h => by rw [HA.out h]; rfl); have HC1 := aM ((HF.out.move HF2.out).now); have HJL := aM (show j + 1 ≤ n from cc); have HLR := aM hl; have HBB := aM hB; have hj1 : (j : Int) ≤ 1000 := by omega
    have h0j : (0 : Int) ≤ (j : Int) := by omega
    have HM2 := aM (show ∀ x ∈ cmbs n r (j + 1), (l ++ [(j : Int)]) ++ x ∈ cmbs n k 0 from fun x hx => by
      have h1 : l ++ ((j : Int) :: x) ∈ (cmbs n (r + 1) i).map (fun x => l ++ x) := by
        rw [HL.out, cmbs_step n r j cc]; simp only [List.map_append, List.mem_append, List.map_map]; exact Or.inr (Or.inl (List.mem_map.2 ⟨x, hx, rfl⟩))
      obtain ⟨y, hy, e⟩ := List.mem_map.1 h1; have e2 : y = (j : Int) :: x := List.append_cancel_left e; subst e2
      simpa using HM.out _ hy)
    have HS2 := aM (show (cmbs n (r + 1) j).map (fun x => l ++ x) = (cmbs n r (j + 1)).map (fun x => (l ++ [(j : Int)]) ++ x) ++ (cmbs n (r + 1) (j + 1)).map (fun x => l ++ x) by rw [cmbs_step n r j cc, List.map_append, List.map_map]; simp [Function.comp_def]); clear hc hB hl hll; go_wp2; refine start_ (n := 13) (S := fun w' => w'.cell? ⟨bg, 0, none⟩ = some (.func (.func 121) #[] #[.pointer (some ⟨bk, 0, none⟩), .pointer (some ⟨bv, 0, none⟩), .pointer (some ⟨bn, 0, none⟩), .pointer (some ⟨bg, 0, none⟩)])) (ds := []) (bm 13 0) (by kernel_rfl) rfl rfl ((bC HX2.out.2.2.2 0).trans rfl) (fun hHeld => ?_); refine yp 1 24 (bm 13 2) ?_; refine yp 2 25 (bm 13 6) ?_; refine yp 3 26 (bm 13 14) ?_; refine yp 4 27 (bm 13 30) ?_; refine yp 5 28 (bm 13 62) ?_; refine yp 6 29 (bm 13 126) ?_; refine yp 7 30 (bm 13 254) ?_; refine yp 10 33 (bm 13 1278) ?_; refine yp 11 34 (bm 13 3326) ?_; refine yt1 0 23 (bm 13 3327) hHeld ?_; refine yo 8 31 (bm 13 3583) (fun K hK => ?_); refine value_ (w1 := ?_) (v := ?_) (by rfl) rfl ?_ ?_
    rotate_left 2
    ·
     go_simp; constructor
     · rfl
     · rfl
    refine hK.out _ _ ((bC (((eA (Below.refl wr.heap.size wr) _).block bg (blk_lt HX2.out.2.2.2)).trans HX2.out.2.2.2) 0).trans rfl) (fun hHeld => ?_); clear hK K; refine norm_ (a' := ?_) ?_ ?_
    rotate_left
    ·
     show Act.put _ (some 31) _ = _; simp only [Act.put, sA, sZ, sU, i64_w, i32_w]; rfl
    refine yo 9 32 (bm 13 4095) (fun K hK => ?_); refine append_new_step (by rfl) rfl (.tmp 29) (.tmp 31) 24 3 rfl Try.underlying24 info3 A l (j : Int) HA.out rfl wr.heap.size (by apply eD; exact eA (Below.refl wr.heap.size wr) _) (heap_alloc_new wr _) rfl HC1.out HLL.out (fun v1 w1 hR hB1 => ?_); have HR := aM hR; have HB1 := aM hB1; have HX3 := aM (HX2.out.move (Fr.below (S := S) hB1) HQ.out.1 HQ.out.2.1 HQ.out.2.2.1 HQ.out.2.2.2); obtain ⟨A1, c1', rfl, hl1, hcc1⟩ := Kd.R_reads hR; have HL1 := aM hl1; clear hR hB1 hcc1 hl1; refine hK.out _ _ ((bC HX3.out.2.2.2 0).trans rfl) (fun hHeld => ?_); clear hK K; refine norm_ (a' := ?_) ?_ ?_
    rotate_left
    ·
     show Act.put _ (some 32) _ = _; simp only [Act.put, sA, sZ, sU, i64_w, i32_w]; rfl
    refine yo 12 35 (bm 13 8191) (fun K hK => ?_); refine call_ 121 #[.slice A1 (l ++ [(j : Int)]).length c1', .int .i64 ((j + 1 : Nat) : Int), .pointer (some ⟨bk, 0, none⟩), .pointer (some ⟨bv, 0, none⟩), .pointer (some ⟨bn, 0, none⟩), .pointer (some ⟨bg, 0, none⟩)] (by rfl) rfl ?run_ ?_
    case run_ =>
     have he := enters_ (P := Try.prog) (w := w1) Try.func121 (by kernel_rfl) rfl #[.slice A1 (l ++ [(j : Int)]).length c1', .int .i64 ((j + 1 : Nat) : Int), .pointer (some ⟨bk, 0, none⟩), .pointer (some ⟨bv, 0, none⟩), .pointer (some ⟨bn, 0, none⟩), .pointer (some ⟨bg, 0, none⟩)]; unfold execOp; simp [resolve, Deferred.ofValue, invoke, Act.eval, he]; unfold wrap64; omega
    with_reducible refine (IH.out (l ++ [(j : Int)]) (j + 1) (ds ++ L1) w1 A1 c1' ?s1 ?s2 ?s3 HX3.out ?s5 HL1.out ?s7 ?s8 HJL.out).mono ?_
    (case s1 => have := HLR.out; simp; omega); (case s2 => exact HM2.out); (case s3 => exact HST.out _ _ _ HI.out HB1.out); (case s5 => exact Ft.row HR.out (fun i hi => Nat.lt_of_lt_of_le (HS.out i hi) (Nat.le_trans HBB.out HF2.out.size))); (case s7 => intro h; subst h; exfalso; obtain ⟨ad, e, _⟩ := (Kd.R_reads' HR.out).2.2.2.2 (by simp); cases e); (case s8 => exact Nat.le_trans HBB.out (Nat.le_trans HF2.out.size (below_size HB1.out))); rintro e w2 ⟨rfl, hi2, hf2⟩; refine ⟨_, rfl, ?_⟩; have HI2 := aM hi2; have HF3 := aM (HF2.out.trans ((Fr.below (S := S) HB1.out).trans hf2)); clear hi2 hf2; have HX4 := aM (HX.out.move HF3.out HQ.out.1 HQ.out.2.1 HQ.out.2.2.1 HQ.out.2.2.2); refine hK.out _ _ ((bC HX4.out.2.2.2 0).trans rfl) (fun hHeld => ?_); clear hK K; refine norm_ (a' := ?_) ?_ ?_
    rotate_left
    ·
     show Act.put _ (some 35) _ = _; simp only [Act.put, sA, sZ, sU, i64_w, i32_w]; rfl
    refine done_ (by kernel_rfl) ?_; have hany := HS2.out; obtain ⟨b, hb⟩ : ∃ b, ((cmbs n r (j + 1)).map fun x => (l ++ [(j : Int)]) ++ x).any p = b := ⟨_, rfl⟩
    rw [hb]; have HB := aM hb; clear hb hany; cases b with
    | true =>
     go_wp2; go_ret; refine ⟨?_, ?_, HF3.out⟩
     · rw [HL.out, HS2.out, List.any_append, List.any_append, HB.out]; simp
     · rw [HL.out, HS2.out, uptoT_no p _ _ HP.out, uptoT_yes p _ _ HB.out, ← List.append_assoc]; exact HI2.out
    | false =>
     go_wp2; go_roundw; case rel => exact ⟨j + 1, L1 ++ (cmbs n r (j + 1)).map (fun x => (l ++ [(j : Int)]) ++ x), by go_num, ⟨by have := HJ.out; omega, HJL.out⟩, ⟨by rw [HL.out, HS2.out, List.append_assoc]⟩, ⟨by rw [List.any_append, HP.out, HB.out]; rfl⟩, ⟨by rw [uptoT_all p _ HB.out] at HI2; rw [← List.append_assoc]; exact HI2.out⟩, HF3⟩
     case measure => have := HJL.out; simp [intOf]; omega
   ·
    have c1 : decide ((j : Int) < (n : Int)) = false := decide_eq_false (by omega); have c2 : decide (j < n) = false := decide_eq_false cc; have e0 : cmbs n (r + 1) j = [] := cmbs_end n r j (by omega); have e1 := HL.out; rw [e0, List.map_nil, List.append_nil] at e1; have HL1 := aM e1; clear e0 e1; go_wp2; go_ret; exact ⟨by rw [HL1.out, HP.out]; rfl, by rw [HL1.out, uptoT_all p L1 HP.out]; exact HI.out, HF2.out⟩
theorem ch_store_func {P : Program} {w : World} (a : Addr) (m : Mode) (fn : Fn) (first captured : Array Value) : (store a (.func fn first captured) m).run P w = stored P w a (.func fn first captured) m := run_store P w a _ m rfl
attribute [local go_sem] ch_store_func
theorem Fr.fresh {S : Nat → Prop} {W W1 : World} {B : Nat} (h : Below B W W1) (hB : B = W.heap.size) : Fr S W W1 := by
  subst hB; exact Fr.below h
theorem choices_calls (n k : Nat) (hk : k ≤ 1000) (hnn : n ≤ 1000) (G : FuncId) (fn : Func) (hG : Try.prog.funcs[G]? = some fn) (hname : (fn.name == "runtime.NumGoroutine") = false) (hbody : fn.body.isSome = true) (vcaps : Array Value) (p : List Int → Bool) (w : World)
    (S : Nat → Prop) (hS : ∀ i, S i → i < w.heap.size) (Inv : List (List Int) → World → Prop) (hst : ∀ ds W W', Inv ds W → Below W.heap.size W W' → Inv ds W') (h0 : Inv [] w)
    (hv : ∀ l ∈ cmbs n k 0, ∀ ds W A c, Inv ds W → Ft S W A l → l.length ≤ c → w.heap.size ≤ W.heap.size → Calls Try.prog G (#[.slice A l.length c] ++ vcaps) W fun e W' => e = .returned (.bool (p l)) ∧ Inv (ds ++ [l]) W' ∧ Fr S W W') :
    Calls Try.prog 117 #[.int .i64 (n : Int), .int .i64 (k : Int), .func (.func G) #[] vcaps] w fun e W' => e = .returned (.bool ((cmbs n k 0).any p)) ∧ Inv (uptoT p (cmbs n k 0)) W' ∧ Fr S w W' := by
  have HV := aM hv; have HS := aM hS; have HST := aM hst; have H0 := aM h0; clear hv hS hst h0; have hE := fun args W => enters_ (P := Try.prog) (w := W) Try.func121 (by kernel_rfl) rfl args
  have hgo : ∀ W, Inv [] W → w.heap.size ≤ W.heap.size → ChX n k G vcaps (w.heap.size + 1) (w.heap.size + 1 + 1) w.heap.size (w.heap.size + 1 + 1 + 1) W →
      Calls Try.prog 121 #[.slice none 0 0, .int .i64 0, .pointer (some ⟨w.heap.size + 1, 0, none⟩), .pointer (some ⟨w.heap.size + 1 + 1, 0, none⟩), .pointer (some ⟨w.heap.size, 0, none⟩), .pointer (some ⟨w.heap.size + 1 + 1 + 1, 0, none⟩)] W fun e W' =>
        e = .returned (.bool ((cmbs n k 0).any p)) ∧ Inv (uptoT p (cmbs n k 0)) W' ∧ Fr S W W' := by
    intro W i0 hs hx; have h := choices_go n k hk hnn G fn hG hname hbody vcaps p (w.heap.size + 1) (w.heap.size + 1 + 1) w.heap.size (w.heap.size + 1 + 1 + 1) w.heap.size S HS.out (fun h => by have := HS.out _ h; omega) (fun h => by have := HS.out _ h; omega) (fun h => by have := HS.out _ h; omega) (fun h => by have := HS.out _ h; omega) Inv HST.out HV.out k [] 0 [] W none 0 (by simp) (fun x hx => by simpa using hx) i0 hx (Ft.nil S W) (Nat.le_refl _) (fun _ => rfl) hs (Nat.zero_le _); have e1 : (cmbs n k 0).map (fun x => [] ++ x) = cmbs n k 0 := by simp
    rw [e1, List.nil_append] at h; exact h
  have HGO := aM hgo; clear hgo; have h4 : ((((w.alloc (.cells #[.int .i64 (n : Int)] 3)).alloc (.cells #[.int .i64 (k : Int)] 3)).alloc (.cells #[.func (.func G) #[] vcaps] 52)).alloc (.cells #[(.func (.func 121) #[] #[.pointer (some ⟨w.heap.size + 1, 0, none⟩), .pointer (some ⟨w.heap.size + 1 + 1, 0, none⟩), .pointer (some ⟨w.heap.size, 0, none⟩), .pointer (some ⟨w.heap.size + 1 + 1 + 1, 0, none⟩)])] 55)).heap[w.heap.size + 1 + 1 + 1]? = some (.cells #[(.func (.func 121) #[] #[.pointer (some ⟨w.heap.size + 1, 0, none⟩), .pointer (some ⟨w.heap.size + 1 + 1, 0, none⟩), .pointer (some ⟨w.heap.size, 0, none⟩), .pointer (some ⟨w.heap.size + 1 + 1 + 1, 0, none⟩)])] 55 (0, 0)) := by simpa using blk_new (((w.alloc (.cells #[.int .i64 (n : Int)] 3)).alloc (.cells #[.int .i64 (k : Int)] 3)).alloc (.cells #[.func (.func G) #[] vcaps] 52)) (.cells #[(.func (.func 121) #[] #[.pointer (some ⟨w.heap.size + 1, 0, none⟩), .pointer (some ⟨w.heap.size + 1 + 1, 0, none⟩), .pointer (some ⟨w.heap.size, 0, none⟩), .pointer (some ⟨w.heap.size + 1 + 1 + 1, 0, none⟩)])] 55)
  have b0 := Below.refl w.heap.size w; have HB4 := aM (show Below w.heap.size w ((((w.alloc (.cells #[.int .i64 (n : Int)] 3)).alloc (.cells #[.int .i64 (k : Int)] 3)).alloc (.cells #[.func (.func G) #[] vcaps] 52)).alloc (.cells #[(.func (.func 121) #[] #[.pointer (some ⟨w.heap.size + 1, 0, none⟩), .pointer (some ⟨w.heap.size + 1 + 1, 0, none⟩), .pointer (some ⟨w.heap.size, 0, none⟩), .pointer (some ⟨w.heap.size + 1 + 1 + 1, 0, none⟩)])] 55)) from eA (eA (eA (eA b0 _) _) _) _)
  have HX := aM (show ChX n k G vcaps (w.heap.size + 1) (w.heap.size + 1 + 1) w.heap.size (w.heap.size + 1 + 1 + 1) ((((w.alloc (.cells #[.int .i64 (n : Int)] 3)).alloc (.cells #[.int .i64 (k : Int)] 3)).alloc (.cells #[.func (.func G) #[] vcaps] 52)).alloc (.cells #[(.func (.func 121) #[] #[.pointer (some ⟨w.heap.size + 1, 0, none⟩), .pointer (some ⟨w.heap.size + 1 + 1, 0, none⟩), .pointer (some ⟨w.heap.size, 0, none⟩), .pointer (some ⟨w.heap.size + 1 + 1 + 1, 0, none⟩)])] 55)) from
    ⟨bA (bA (by simpa using blk_new (w.alloc _) _) _) _, bA (by simpa using blk_new ((w.alloc _).alloc _) _) _, bA (bA (bA (blk_new w _) _) _) _, h4⟩)
  clear h4 b0; go_enter Try.func117, Try.ntmps117; go_wp2_with (first | ((with_reducible refine (HGO.out _ (HST.out _ _ _ H0.out HB4.out) (below_size HB4.out) HX.out).mono ?_); rintro e w2 ⟨rfl, hi2, hf2⟩; have J1 := aM hi2; have J2 := aM ((Fr.below (S := S) HB4.out).trans hf2); clear hi2 hf2)); go_ret; exact ⟨rfl, J1.out, J2.out⟩
def impl_copied.f (l0 : List Int) : Option (List Int) := (some (([] : List Int) : List Int)).bind fun y551 => (if y551.length + l0.length < 17592186044416 then (some (y551 ++ l0)) else (none))
theorem impl_copied.calls (A0 : Option Addr) (c0 : Nat) (l0 : List Int) (r : List Int) (w : World) (hr0 : Kd.C (Kd.int .i64) w A0 l0.length l0) (hc0 : l0.length ≤ c0) (h : impl_copied.f l0 = some r) :
    Calls Try.prog 92 #[.slice A0 l0.length c0] w fun e w' => ∃ v0_ : Value, e = .returned (v0_) ∧ Kd.R (Kd.int .i64) 3 w' w.heap.size (fun _ => True) v0_ r ∧ Below w.heap.size w w' := by
 have HR0 := aM hr0; have HC0 := aM hc0; clear hr0 hc0; have HB := aM (Below.refl w.heap.size w); have H : ((some (([] : List Int) : List Int)).bind fun y551 => (if y551.length + l0.length < 17592186044416 then (some (y551 ++ l0)) else (none))) = some r := h; clear h; obtain ⟨y551, hy551⟩ := yE (([] : List Int) : List Int); replace H : (if y551.length + l0.length < 17592186044416 then (some (y551 ++ l0)) else (none)) = some r := yI hy551 H; have Ny551 := aM hy551; clear hy551; obtain ⟨c2, -, H⟩ | ⟨c2, -, H⟩ := yif H
 rotate_left
 · exact absurd H (by simp)
 have LMc2 := aM c2; clear c2; obtain ⟨y554, hy554⟩ := yE (y551 ++ l0 : List Int); replace H : (some y554) = some r := yI hy554 H; have Ny554 := aM hy554; clear hy554; obtain rfl := Option.some.inj H; go_enter Try.func92, Try.ntmps92; go_wp2_with (first | ((with_reducible refine gate_dst (N := 3) rfl ?_); refine Kd.R_lit (Kd.int .i64) _ 3 ?hg (N := 3) ?hd (xs := ([] : List Int)) (inner := []) (ok := fun _ => True) (okp := fun _ => True) ?hr ?hp (fun _ hk => hk) trivial (Below.refl _ _) (Nat.le_refl _) (by simp) ?_; (case hd => rfl); (case hg => rfl); (case hr => first | (go_simp; done) | (go_simp; rfl)); (case hp => exact (Reps.none _ _)); intro v552 w3 ho4 hb hg_ hnew_; clear hg_ hnew_; (first | rw [← Ny551.out] at ho4 | (simp only [Int.reduceToNat] at ho4; rw [← Ny551.out] at ho4)); have HO553 := aM (Kd.R_lower ho4 (below_size (xH HB.out))); replace HB := yS0 HB hb; clear hb ho4) | ((with_reducible refine gate_builtin (b := .append) (xs := #[.tmp 3, .tmp 4]) rfl ?_); at_builtin; refine Kd.R_append_rows (Kd.int .i64) (w0 := w) w.heap.size rfl (.tmp 3) (.tmp 4) 24 3 (.int .i64 0) 8 rfl Try.underlying24 info3 rfl (by decide) (by omega) v552 y551 l0 _ _ _ (fun _ => True) (fun _ => False) rfl rfl ?aO ?aR (fun _ _ h => h) (fun _ h => h.elim) ?aF ?aB ?aS ?aL ?_; (case aR => exact xC (Kd.C_below HR0.out HB.out)); (case aB => exact (xH HB.out)); (case aF => exact (fun _ _ => trivial)); (case aO => exact (xR HO553.out)); (case aS => exact (below_size (xH HB.out))); (case aL => have := LMc2.out; omega); intro v555 w5 ho hb hg hat; rw [← Ny554.out] at ho; replace HB := aM (hb); have HO556 := aM (ho); clear HO553; clear ho hb hg hat)); go_ret; exact ⟨_, yF, xR HO556.out, xH HB.out⟩
def impl_Sample_signed.l0 : Nat → Int → List Int → List Int → Int → Int → List (List Int) → List Int → Option (List Int)
  | 0, _, _, _, _, _, _, _ => none
  | k + 1, x1, x5, x18, x19, x20, x558000, x558001 => if x20 < x19 then (if 0 ≤ x20 then (if x20 < (x18.length : Int) then (if 0 ≤ x1 then (if x1 < (x558001.length : Int) then (if x5.length < 17592186044416 then (impl_Sample_signed.l0 k x1 (x5 ++ [wrap64 ((rd x18 x20) * (rd x558001 x1))]) x18 x19 (wrap64 (x20 + 1)) x558000 x558001) else (none)) else (none)) else (none)) else (none)) else (none)) else (some x5)
def impl_Sample_signed.f (k : Nat) (l0_0 : List (List Int)) (l0_1 : List Int) (a1 : Int) : Option (List Int) := if 0 ≤ a1 then (if a1 < (l0_1.length : Int) then (if a1 < (l0_0.length : Int) then (impl_Sample_signed.l0 k a1 (([rd l0_1 a1] : List Int)) (rd_L2 l0_0 a1) ((rd_L2 l0_0 a1).length : Int) 0 l0_0 l0_1) else (none)) else (none)) else (none)
theorem impl_Sample_signed.calls (k : Nat) (A0_0 : Option Addr) (c0_0 : Nat) (l0_0 : List (List Int)) (A0_1 : Option Addr) (c0_1 : Nat) (l0_1 : List Int) (a1 : Int) (r : List Int) (w : World) (hr0_0 : Kd.C (Kd.slice 3 (Kd.int .i64)) w A0_0 l0_0.length l0_0) (hc0_0 : l0_0.length ≤ c0_0) (hr0_1 : Kd.C (Kd.int .i64) w A0_1 l0_1.length l0_1) (hc0_1 : l0_1.length ≤ c0_1) (h : impl_Sample_signed.f k l0_0 l0_1 a1 = some r) :
    Calls Try.prog 119 #[.agg #[.slice A0_0 l0_0.length c0_0, .slice A0_1 l0_1.length c0_1], .int .i64 a1] w fun e w' => ∃ v0_ : Value, e = .returned (v0_) ∧ Kd.R (Kd.int .i64) 3 w' w.heap.size (fun _ => True) v0_ r ∧ Below w.heap.size w w' := by
 have hu36 := Try.underlying36; have HR0_0 := aM hr0_0; have HC0_0 := aM hc0_0; clear hr0_0 hc0_0; have HR0_1 := aM hr0_1; have HC0_1 := aM hc0_1; clear hr0_1 hc0_1; have HB := aM (Below.refl w.heap.size w); have H : (if 0 ≤ a1 then (if a1 < (l0_1.length : Int) then (if a1 < (l0_0.length : Int) then (impl_Sample_signed.l0 k a1 (([rd l0_1 a1] : List Int)) (rd_L2 l0_0 a1) ((rd_L2 l0_0 a1).length : Int) 0 l0_0 l0_1) else (none)) else (none)) else (none)) = some r := h; clear h; obtain ⟨c3, c3b0, H⟩ | ⟨c3, -, H⟩ := yif H
 rotate_left
 · exact absurd H (by simp)
 clear c3; obtain ⟨c4, c4b0, H⟩ | ⟨c4, -, H⟩ := yif H
 rotate_left
 · exact absurd H (by simp)
 clear c4; obtain ⟨y559, hy559⟩ := yE (([rd l0_1 a1] : List Int) : List Int); replace H : (if a1 < (l0_0.length : Int) then (impl_Sample_signed.l0 k a1 y559 (rd_L2 l0_0 a1) ((rd_L2 l0_0 a1).length : Int) 0 l0_0 l0_1) else (none)) = some r := yI hy559 H; have Ny559 := aM hy559; clear hy559; obtain ⟨c5, c5b0, H⟩ | ⟨c5, -, H⟩ := yif H
 rotate_left
 · exact absurd H (by simp)
 clear c5; have H' := aM H; clear H; go_enter Try.func119, Try.ntmps119; go_wp2_with (first | (refine yB 2 #[.slice A0_0 l0_0.length c0_0, .slice A0_1 l0_1.length c0_1] 36 ?_; intro gb557 hg w6 hbox hb; have BK557 := aM (hbox); have GW557 := yV0 hg HB; have GE557 := yV0 hg HB; replace HB := yS0 HB hb; clear hb hbox hg; obtain ⟨hcz7_0, hcz7_1, hfz7_0, hfz7_1⟩ := yD2 BK557; have p558 : 0 ≤ (a1 : Int) := yA; have q558 : a1 < (l0_1.length : Int) := yA; obtain ⟨ad558, e558, hx558_0⟩ := Kd.at_int HR0_1.out a1 p558 q558; cases e558; replace hx558_0 := yc HB hx558_0; replace p558 := eq_true p558; replace q558 := eq_true q558) | ((with_reducible refine gate_dst (N := 13) rfl ?_); refine Kd.R_lit (Kd.int .i64) _ 3 ?hg (N := 13) ?hd (xs := ([rd l0_1 a1] : List Int)) (inner := [.int .i64 (rd l0_1 a1)]) (ok := fun _ => True) (okp := fun _ => True) ?hr ?hp (fun _ hk => hk) trivial (Below.refl _ _) (Nat.le_refl _) (by simp) ?_; (case hd => rfl); (case hg => rfl); (case hr => first | (go_simp; done) | (go_simp; rfl)); (case hp => exact (Reps.one (show Kd.M (Kd.int .i64) _ _ _ (rd l0_1 a1) [.int .i64 (rd l0_1 a1)] from rfl) (Reps.none _ _))); intro v560 w8 ho9 hb hg_ hnew_; clear hg_ hnew_; (first | rw [← Ny559.out] at ho9 | (simp only [Int.reduceToNat] at ho9; rw [← Ny559.out] at ho9)); have HO561 := aM (Kd.R_lower ho9 (below_size (xG1 HB.out GE557.out))); replace BK557 := yK BK557 hb; replace HB := yS1 HB GE557 hb; clear hb ho9; obtain ⟨hcz10_0, hcz10_1, hfz10_0, hfz10_1⟩ := yD2 BK557; have p562 : 0 ≤ (a1 : Int) := yA; have q562 : a1 < (l0_0.length : Int) := yA; obtain ⟨ad562, A562_0, c562_0, e562, hx562_0, hl562_0, hi562_0⟩ := at_L2 HR0_0.out a1 p562 q562; cases e562; replace hx562_0 := yc HB hx562_0; have HR562_0 := aM hi562_0; have HC562_0 := aM hl562_0; clear hi562_0 hl562_0; replace p562 := eq_true p562; replace q562 := eq_true q562)); go_loopg [5, 20] k (fun kq v5 v20 w' => ∃ (x5_1 : List Int) (x20_1 : Int), v20 = .int .i64 x20_1 ∧ Aside0 (impl_Sample_signed.l0 kq a1 x5_1 (rd_L2 l0_0 a1) ((rd_L2 l0_0 a1).length : Int) x20_1 l0_0 l0_1 = some r) ∧ Aside0 (kq ≤ k) ∧ Aside0 (Kd.R (Kd.int .i64) 3 w' w.heap.size (fun _ => True) v5 x5_1) ∧ Aside0 (w'.heap[gb557]? = some (.cells #[(.slice (some ad562) l0_0.length c0_0), (.slice (some ad558) l0_1.length c0_1)] 36 (0, 0))) ∧ Aside0 (Below w.heap.size w w')); case atStart => exact ⟨(y559), (0), yZ, H', ⟨Nat.le_refl _⟩, ⟨xR HO561.out⟩, ⟨xB BK557.out⟩, ⟨xG1 HB.out GE557.out⟩⟩
 case round =>
  clear H'; try clear c1
  try clear c3
  try clear c3b0
  try clear c4
  try clear c4b0
  try clear c5
  try clear c5b0
  try clear hcz10_0
  try clear hcz10_1
  try clear hcz7_0
  try clear hcz7_1
  try clear hfz10_0
  try clear hfz10_1
  try clear hfz7_0
  try clear hfz7_1
  try clear hx558_0
  try clear hx562_0
  try clear p558
  try clear p562
  try clear q558
  try clear q562
  obtain ⟨x5_1, x20_1, rfl, HA, HK1, HO_5, BK557, HB⟩ := hrel; cases gk with
  | zero => exact absurd HA.out (by simp [impl_Sample_signed.l0])
  | succ k1 =>
   have H := HA.out; clear HA; simp only [impl_Sample_signed.l0] at H; obtain ⟨-, c11b0, H⟩ | ⟨-, c11b0, H⟩ := yif H
   rotate_left
   ·
    obtain rfl := Option.some.inj H; go_wp2; go_ret; exact ⟨_, yF, xR HO_5.out, xG1 HB.out GE557.out⟩
   obtain ⟨-, c12b0, H⟩ | ⟨c12, -, H⟩ := yif H
   rotate_left
   · exact absurd H (by simp)
   obtain ⟨-, c13b0, H⟩ | ⟨c13, -, H⟩ := yif H
   rotate_left
   · exact absurd H (by simp)
   obtain ⟨-, c14b0, H⟩ | ⟨c14, -, H⟩ := yif H
   rotate_left
   · exact absurd H (by simp)
   obtain ⟨-, c15b0, H⟩ | ⟨c15, -, H⟩ := yif H
   rotate_left
   · exact absurd H (by simp)
   obtain ⟨c16, -, H⟩ | ⟨c16, -, H⟩ := yif H
   rotate_left
   · exact absurd H (by simp)
   have LMc16 := aM c16; clear c16; obtain ⟨y565, hy565⟩ := yE (x5_1 ++ [wrap64 ((rd (rd_L2 l0_0 a1) x20_1) * (rd l0_1 a1))] : List Int); replace H : (impl_Sample_signed.l0 k1 a1 y565 (rd_L2 l0_0 a1) ((rd_L2 l0_0 a1).length : Int) (wrap64 (x20_1 + 1)) l0_0 l0_1) = some r := yI hy565 H; have Ny565 := aM hy565; clear hy565; have H' := aM H; clear H; obtain ⟨ad563, e563, hx563_0, p563, q563⟩ := yi HR562_0.out x20_1; cases e563
   replace hx563_0 := yc HB hx563_0; have hcz17_0 : wr.cell? ⟨gb557, 0, none⟩ = some (.slice (some ad562) l0_0.length c0_0) := (bC BK557.out 0).trans rfl; have hcz17_1 : wr.cell? ⟨gb557, 1, none⟩ = some (.slice (some ad558) l0_1.length c0_1) := (bC BK557.out 1).trans rfl; have hfz17_0 := bF BK557.out 0; have hfz17_1 := bF BK557.out 1; obtain ⟨ad564, e564, hx564_0, p564, q564⟩ := yi HR0_1.out a1; obtain rfl : ad558 = ad564 := (by injection e564)
   replace hx564_0 := yc HB hx564_0; go_wp2_with (first | ((with_reducible refine gate_builtin (b := .append) (xs := #[.tmp 24, .tmp 32]) rfl ?_); at_builtin; refine Kd.R_append (Kd.int .i64) (w0 := w) w.heap.size rfl (.tmp 24) (.tmp 32) 24 3 (.int .i64 0) 8 rfl Try.underlying24 info3 rfl (by decide) (by omega) u5 x5_1 (wrap64 ((rd (rd_L2 l0_0 a1) x20_1) * (rd l0_1 a1))) [.int .i64 (wrap64 ((rd (rd_L2 l0_0 a1) x20_1) * (rd l0_1 a1)))] (fun _ => True) (fun _ => False) rfl rfl ?aP (fun _ hk => hk.elim) ?aF ?aO ?aB ?aS ?aL ?_; (case aP => exact rfl); (case aB => exact (xG1 HB.out GE557.out)); (case aF => exact (fun _ _ => trivial)); (case aO => exact (xR HO_5.out)); (case aS => exact (below_size (xG1 HB.out GE557.out))); (case aL => have := LMc16.out; omega); intro v566 w18 ho hb hg hat; rw [← Ny565.out] at ho; replace BK557 := yR BK557 hg (Kd.R_ne HO_5.out BK557.out (by decide)); replace HB := aM (hb); have HO567 := aM (ho); clear HO_5; clear ho hb hg hat)); go_roundg k1; case measure => have := HK1.out; omega
   case rel => exact ⟨(y565), (wrap64 (x20_1 + 1)), yZ, H', ⟨by have := HK1.out; omega⟩, ⟨xR HO567.out⟩, ⟨xB BK557.out⟩, ⟨xG1 HB.out GE557.out⟩⟩
mutual
def impl_divisor.l0 : Nat → Int → List Int → Int → Int → Option (Int)
  | 0, _, _, _, _ => none
  | k + 1, x3, x6, x7, x8 => if x8 < x7 then (if 0 ≤ x8 then (if x8 < (x6.length : Int) then (impl_divisor.l1 k x3 (rd x6 x8) x6 x7 x8) else (none)) else (none)) else (some (mx x3 (wrap64 (-x3))))
def impl_divisor.l1 : Nat → Int → Int → List Int → Int → Int → Option (Int)
  | 0, _, _, _, _, _ => none
  | k + 1, x3, x5, x6, x7, x8 => if x5 = 0 then (impl_divisor.l0 k x3 x6 x7 (wrap64 (x8 + 1))) else (impl_divisor.l1 k x5 (Int.tmod x3 x5) x6 x7 x8)
end
def impl_divisor.f (k : Nat) (l0 : List Int) : Option (Int) := impl_divisor.l0 k 0 l0 (l0.length : Int) 0
theorem impl_divisor.calls (k : Nat) (A0 : Option Addr) (c0 : Nat) (l0 : List Int) (r : Int) (w : World) (hr0 : Kd.C (Kd.int .i64) w A0 l0.length l0) (hc0 : l0.length ≤ c0) (h : impl_divisor.f k l0 = some r) :
    Calls Try.prog 123 #[.slice A0 l0.length c0] w fun e w' => e = .returned (.int .i64 r) ∧ Below w.heap.size w w' := by
 have HR0 := aM hr0; have HC0 := aM hc0; clear hr0 hc0; have HB := aM (Below.refl w.heap.size w); have H : (impl_divisor.l0 k 0 l0 (l0.length : Int) 0) = some r := h; clear h; have H' := aM H; clear H; go_enter Try.func123, Try.ntmps123; go_wp2
 repeat (go_quiet (fail); try go_wp2)
 go_loopg [3, 8] k (fun kq v3 v8 w' => ∃ (x3_1 : Int) (x8_1 : Int), v3 = .int .i64 x3_1 ∧ v8 = .int .i64 x8_1 ∧ Aside0 (impl_divisor.l0 kq x3_1 l0 (l0.length : Int) x8_1 = some r) ∧ Aside0 (kq ≤ k) ∧ Aside0 (Below w.heap.size w w')); case atStart => exact ⟨(0), (0), yZ, yZ, H', ⟨Nat.le_refl _⟩, ⟨xH HB.out⟩⟩
 case round =>
  clear H'; try clear c1
  obtain ⟨x3_1, x8_1, rfl, rfl, HA, HK1, HB⟩ := hrel; cases gk with
  | zero => exact absurd HA.out (by simp [impl_divisor.l0])
  | succ k1 =>
   have H := HA.out; clear HA; simp only [impl_divisor.l0] at H; obtain ⟨c2, c2b0, H⟩ | ⟨-, c2b0, H⟩ := yif H
   rotate_left
   ·
    obtain ⟨ji6, hji6⟩ := yJ ((mx x3_1 (wrap64 (-x3_1)))); (first | rw [hji6] at H | simp only [hji6] at H); have hji6_ : (if x3_1 < (wrap64 (-x3_1)) then (wrap64 (-x3_1)) else x3_1) = ji6 := hji6; obtain rfl := Option.some.inj H; go_wp2
    repeat (go_quiet (fail); try go_wp2)
    go_ret; exact ⟨by first | rfl | (simp [errW_none, errW_some] <;> rfl) | (simp only [← hji6]; first | rfl | (simp [errW_none, errW_some] <;> rfl)) | (simp [*, errW_none, errW_some] <;> rfl), xH HB.out⟩
   clear c2; obtain ⟨c3, c3b0, H⟩ | ⟨c3, -, H⟩ := yif H
   rotate_left
   · exact absurd H (by simp)
   clear c3; obtain ⟨c4, c4b0, H⟩ | ⟨c4, -, H⟩ := yif H
   rotate_left
   · exact absurd H (by simp)
   clear c4; have H' := aM H; clear H; obtain ⟨ad568, e568, hx568_0, p568, q568⟩ := yi HR0.out x8_1; cases e568
   replace hx568_0 := yc HB hx568_0; go_wp2
   repeat (go_quiet (fail); try go_wp2)
   go_loopg [3, 5] k1 (fun kq v3 v5 w' => ∃ (x3_2 : Int) (x5_2 : Int), v3 = .int .i64 x3_2 ∧ v5 = .int .i64 x5_2 ∧ Aside0 (impl_divisor.l1 kq x3_2 x5_2 l0 (l0.length : Int) x8_1 = some r) ∧ Aside0 (kq ≤ k1) ∧ Aside0 (Below w.heap.size w w')); case atStart => exact ⟨(x3_1), (rd l0 x8_1), yZ, yZ, H', ⟨Nat.le_refl _⟩, ⟨xH HB.out⟩⟩
   case round =>
    clear H'; try clear c2
    try clear c2b0
    try clear c3
    try clear c3b0
    try clear c4
    try clear c4b0
    try clear hx568_0
    try clear p568
    try clear q568
    obtain ⟨x3_2, x5_2, rfl, rfl, HA, HK2, HB⟩ := hrel; cases gk with
    | zero => exact absurd HA.out (by simp [impl_divisor.l1])
    | succ k2 =>
     have H := HA.out; clear HA; simp only [impl_divisor.l1] at H; obtain ⟨c5, -, H⟩ | ⟨c5, -, H⟩ := yif H
     rotate_left
     ·
      have c5b0 : (x5_2 == 0) = false := beq_eq_false_iff_ne.mpr c5; have c5b1 : (x5_2 != 0) = true := bne_iff_ne.mpr c5; have H' := aM H; clear H; go_wp2
      repeat (go_quiet (fail); try go_wp2)
      go_roundg k2; case measure => have := HK1.out; have := HK2.out; omega
      case rel => exact ⟨(x5_2), (Int.tmod x3_2 x5_2), yZ, yZ, H', ⟨by have := HK1.out; have := HK2.out; omega⟩, ⟨xH HB.out⟩⟩
     have c5b0 : (x5_2 == 0) = true := beq_iff_eq.mpr c5; have c5b1 : (x5_2 != 0) = false := bne_eq_false_iff_eq.mpr c5; clear c5; have H' := aM H; clear H; go_wp2
     repeat (go_quiet (fail); try go_wp2)
     go_roundg k2; case measure => have := HK1.out; have := HK2.out; omega
     case rel => exact ⟨(x3_2), (wrap64 (x8_1 + 1)), yZ, yZ, H', ⟨by have := HK1.out; have := HK2.out; omega⟩, ⟨xH HB.out⟩⟩
end Go.Proofs.Ytkgekmpnbhomgaa.PFnSides
