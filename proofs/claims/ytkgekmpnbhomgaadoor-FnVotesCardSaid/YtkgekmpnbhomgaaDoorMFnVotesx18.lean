-- Laid for this claim by a program of the session's own (wip/tool/myprint.py).
import Derived.Test.YtkgekmpnbhomgaaDoorMFnVotesx17
namespace Go.Proofs.YtkgekmpnbhomgaaDoor.PFnVotes
open Go.RowKit Go.Proofs.YtkgekmpnbhomgaaDoorW.PrintWords Go.Proofs.YtkgekmpnbhomgaaDoorW.PrintLast Go.Proofs.YtkgekmpnbhomgaaDoorW.PrintMore
attribute [local go_sem] max2_int min2_int max_two min_two max_three min_three max_four min_four
set_option linter.unusedVariables false
set_option linter.unusedSimpArgs false
set_option maxHeartbeats 8000000 in
set_option maxRecDepth 100000 in
theorem laws_FnVotes.rest : ArgT laws_FnVotes.half := by
 intro k A0 c0 l0 r w HTG_ HTT_ hu26 HR0 HC0 A2 t431 t434 t435 A4 t439 t440 A5 t441 t442 A6 zz0 nd w8 gb438 w9 GW438 GE438 Ao10 co10 hcz11_0 hcz11_1 hfz11_0 hfz11_1 Ao12 co12 _ ho1 w13 hcz14_0 hcz14_1 hfz14_0 hfz14_1 w15 HO433 HO437 _ _ zz1 kj6 HJ6 t443 t446 A18 t447 t450 A19 hcz21_0 hcz21_1 hfz21_0 hfz21_1 w22 v444 _ hcz23_0 hcz23_1 hfz23_0 hfz23_1 w24 v448 _ HO449 _ _ HO445 _ _ zz2 kj19 HJ19 t453 t456 A36 t457 t460 A37 hcz39_0 hcz39_1 hfz39_0 hfz39_1 w40 v454 _ hcz41_0 hcz41_1 hfz41_0 hfz41_1 w42 v458 _ HO459 _ _ _ HO455 _ _ zz3 kj37 HJ37 t462 t463 A49 t464 t465 A50 hcz52_0 hcz52_1 hfz52_0 hfz52_1 w53 hcz54_0 hcz54_1 hfz54_0 hfz54_1 w55 _ _ _ _ _ _ zz4 kj50 HJ50 t466 t469 t470 A59 t472 t475 t476 A60 hcz62_0 hcz62_1 hfz62_0 hfz62_1 w63 gb471 w64 GW471 GE471 NB438_471 NB471_438 Ao65 co65 _ hnb66 hnc66 hcz67_0 hcz67_1 hfz67_0 hfz67_1 hcz68_0 hcz68_1 hfz68_0 hfz68_1 w69 gb477 w70 _ GW477 GE477 _ NB438_477 NB477_438 _ NB471_477 NB477_471 _ Ao71 co71 ho0 _ _ _ _ HO468 HO474 hnb72 hnc72 hnb73 hnc73 hcz74_0 hcz74_1 hfz74_0 hfz74_1 zz5 kj60 HJ60 t479 t480 A85 t481 t482 A86 HC87 hnb88 hnc88 hnb89 hnc89 hcz90_0 hcz90_1 hfz90_0 hfz90_1 w91 hcz92_0 hcz92_1 hfz92_0 hfz92_1 zz6 zz7 w93 HO_4 HO_9 HO_13 HO_439000 HO_472000 HO_478000 BK438 BK471 BK477 HB zz8 zz9 wc u49 u50 u51 u52 u53 u54 u55 u56 u57 u58 u59 u60 u61 u62 u63 u64 u65 u66 u67 u68 u69 u70 u71 u72 u73 u74 u75 u76 u77 u78 u79 u80 u81 u82 u83 u84 u85 u86 u87 u88 u89 u90 u91 u92 u93 u94 u95 u96 u97 u98 u99 u100 u101 u102 u103 u104 u105 u106 u107 u108 u109 u110 u111 u112 u113 u114 u115 u116 u117 u118 u119 u120 u121 u122 u123 u124 u125 u126 u127 u128 u129 u130 u131 u132 u133 u134 u135 u136 u137 u138 u139 u140 u141 u142 u143 u144 u145 u146 u147 u148 u149 u150 u151 u152 u153 u154 u155 u156 u157 u158 u159 u160 u161 u162 u163 u164 u165 u166 u167 u168 u169 u170 u171 u172 u173 u174 u175 u176 u177 u178 u179 u180 u181 u182 u183 u184 u185 u186 u187 u188 u189 u190 u191 u192 u193 u194 u195 u196 u197 u198 u199 u200 u201 u202 u203 u204 u205 u206 u207 u208 u209 u210 u211 u212 u213 u214 u215 u216 u217 u218 u219 u220 u221 u222 u223 u224 u225 u226 u227 u228 u229 u230 u231 u232 u233 u234 u235 u236 u237 u238 u239 u240 u241 u242 u243 u244 u245 u246 u247 u248 u249 u250 u251 u252 u253 u254 u255 u256 u257 u258 u259 u260 u261 u262 u263 u264 u265 u266 u267 u268 u269 u270 u271 u272 u273 u274 u275 u276 u277 u278 u279 u280 u281 u282 u283 u284 u285 u286 u287 u288 u289 u290 u291 u292 u293 u294 u295 u296 u297 u298 u299 u300 u301 u302 u303 u304 u305 u306 u307 u308 u309 u310 u311 u312 u313 u314 u315 u316 u317 u318 u319 u320 u321 u322 u323 u324 u325 u326 u327 u328 u329 u330 u331 u332 u333 u334 u335 u336 u337 u338 u339 u340 u341 u342 u343 u344 u345 u346 u347 u348 u349 u350 u351 u352 hcut
 clear HC87
 try clear hcz11_0; try clear hcz11_1; try clear hcz14_0; try clear hcz14_1; try clear hcz21_0; try clear hcz21_1; try clear hcz23_0; try clear hcz23_1; try clear hcz39_0; try clear hcz39_1; try clear hcz41_0; try clear hcz41_1; try clear hcz52_0; try clear hcz52_1; try clear hcz54_0; try clear hcz54_1; try clear hcz62_0; try clear hcz62_1; try clear hcz67_0; try clear hcz67_1; try clear hcz68_0; try clear hcz68_1; try clear hcz74_0; try clear hcz74_1; try clear hcz90_0; try clear hcz90_1; try clear hcz92_0; try clear hcz92_1; try clear hfz11_0; try clear hfz11_1; try clear hfz14_0; try clear hfz14_1; try clear hfz21_0; try clear hfz21_1; try clear hfz23_0; try clear hfz23_1; try clear hfz39_0; try clear hfz39_1; try clear hfz41_0; try clear hfz41_1; try clear hfz52_0; try clear hfz52_1; try clear hfz54_0; try clear hfz54_1; try clear hfz62_0; try clear hfz62_1; try clear hfz67_0; try clear hfz67_1; try clear hfz68_0; try clear hfz68_1; try clear hfz74_0; try clear hfz74_1; try clear hfz90_0; try clear hfz90_1; try clear hfz92_0; try clear hfz92_1
 obtain ⟨kq, x194_86, rfl, HA, HJ86, HO_4, HO_9, HO_13, HO_439000, HO_472000, HO_478000, BK438, BK471, BK477, HB⟩ := hcut
 cases kq with
 | zero => exact absurd HA.out (by simp [laws_FnVotes.j5])
 | succ kj86 =>
  have H := HA.out
  clear HA
  simp only [laws_FnVotes.j5] at H
  by_cases c96 : x194_86 = true
  ·
   subst c96
   have H1 : (none) = some r := by rw [if_pos rfl] at H; exact H
   clear H
   have H := H1
   clear H1
   exact absurd H (by simp)
  ·
   replace c96 := Bool.eq_false_iff.mpr c96
   subst c96
   have H1 : ((impl_IsStrong.f kj86 t431 t434).bind fun bt483 => ((spec_IsStrong.f kj86 t431 t434).bind fun bt485 => (if (bt483.1 != bt485.1) = true then (laws_FnVotes.j6 kj86 t435 t439 t440 t443 t446 t453 t462 bt483.1 true t431 t434 t466 t469) else (if (bt483.2 != bt485.2) = true then (laws_FnVotes.j6 kj86 t435 t439 t440 t443 t446 t453 t462 bt483.1 true t431 t434 t466 t469) else (laws_FnVotes.j6 kj86 t435 t439 t440 t443 t446 t453 t462 bt483.1 (bt483.2 != t446) t431 t434 t466 t469))))) = some r := by rw [if_neg (show ¬ (false = true) by decide)] at H; exact H
   clear H
   have H := H1
   clear H1
   replace H := oB.mp H
   obtain ⟨⟨t483, t484⟩, A970, H⟩ := H
   replace H : ((spec_IsStrong.f kj86 t431 t434).bind fun bt485 => (if (t483 != bt485.1) = true then (laws_FnVotes.j6 kj86 t435 t439 t440 t443 t446 t453 t462 t483 true t431 t434 t466 t469) else (if (t484 != bt485.2) = true then (laws_FnVotes.j6 kj86 t435 t439 t440 t443 t446 t453 t462 t483 true t431 t434 t466 t469) else (laws_FnVotes.j6 kj86 t435 t439 t440 t443 t446 t453 t462 t483 (t484 != t446) t431 t434 t466 t469)))) = some r := H
   have A97 := aM A970
   clear A970
   replace H := oB.mp H
   obtain ⟨⟨t485, t486⟩, A980, H⟩ := H
   replace H : (if (t483 != t485) = true then (laws_FnVotes.j6 kj86 t435 t439 t440 t443 t446 t453 t462 t483 true t431 t434 t466 t469) else (if (t484 != t486) = true then (laws_FnVotes.j6 kj86 t435 t439 t440 t443 t446 t453 t462 t483 true t431 t434 t466 t469) else (laws_FnVotes.j6 kj86 t435 t439 t440 t443 t446 t453 t462 t483 (t484 != t446) t431 t434 t466 t469))) = some r := H
   have A98 := aM A980
   clear A980
   have HC99 := aM H
   clear H
   have hnb100 := NB438_471.out
   have hnc100 := NB471_438.out
   have hnb101 := NB438_477.out
   have hnc101 := NB477_438.out
   have hcz102_0 : wc.cell? ⟨gb438, 0, none⟩ = some (.slice Ao10 t431.length co10) := (bC BK438.out 0).trans rfl
   have hcz102_1 : wc.cell? ⟨gb438, 1, none⟩ = some (.int .i64 t434) := (bC BK438.out 1).trans rfl
   have hfz102_0 := bF BK438.out 0
   have hfz102_1 := bF BK438.out 1
   go_upto_region 30 with (first | (go_at_call 21; (with_reducible refine (impl_IsStrong.calls kj86 _ _ t431 t434 t483 t484 _ ?side1 ?side2 A97.out).mono ?_); (case side1 => exact xC (Kd.R_reads' HO_439000.out).2.2); (case side2 => exact (Kd.R_reads' HO_439000.out).2.1); rintro e w103 ⟨rfl, hb⟩; replace HO_4 := aM (Kd.R_below (xR HO_4.out) hb); replace HO_9 := aM (Kd.S_below (xS HO_9.out) hb); replace HO_13 := aM (Kd.S_below (xS HO_13.out) hb); replace HO_439000 := aM (Kd.R_below (xR HO_439000.out) hb); replace HO_472000 := aM (Kd.R_below (xR HO_472000.out) hb); replace HO_478000 := aM (Kd.R_below (xR HO_478000.out) hb); replace BK438 := aM (bB (g := gb438) (o := .cells #[.slice Ao10 t431.length co10, .int .i64 t434] 26 (0, 0)) (xB BK438.out) hb); replace BK471 := aM (bB (g := gb471) (o := .cells #[.slice Ao65 t466.length co65, .int .i64 t469] 26 (0, 0)) (xB BK471.out) hb); replace BK477 := aM (bB (g := gb477) (o := .cells #[.slice Ao71 t472.length co71, .int .i64 t475] 26 (0, 0)) (xB BK477.out) hb); replace HB := aM (below_step (xG3 HB.out GE438.out GE471.out GE477.out) hb); (try clear hb; try clear hk; try clear hi); have hcz104_0 : w103.cell? ⟨gb438, 0, none⟩ = some (.slice Ao10 t431.length co10) := (bC BK438.out 0).trans rfl; have hcz104_1 : w103.cell? ⟨gb438, 1, none⟩ = some (.int .i64 t434) := (bC BK438.out 1).trans rfl; have hfz104_0 := bF BK438.out 0; have hfz104_1 := bF BK438.out 1) | (go_at_call 22; (with_reducible refine (spec_IsStrong.calls kj86 _ _ t431 t434 t485 t486 _ ?side1 ?side2 A98.out).mono ?_); (case side1 => exact xC (Kd.R_reads' HO_439000.out).2.2); (case side2 => exact (Kd.R_reads' HO_439000.out).2.1); rintro e w105 ⟨rfl, hb⟩; replace HO_4 := aM (Kd.R_below (xR HO_4.out) hb); replace HO_9 := aM (Kd.S_below (xS HO_9.out) hb); replace HO_13 := aM (Kd.S_below (xS HO_13.out) hb); replace HO_439000 := aM (Kd.R_below (xR HO_439000.out) hb); replace HO_472000 := aM (Kd.R_below (xR HO_472000.out) hb); replace HO_478000 := aM (Kd.R_below (xR HO_478000.out) hb); replace BK438 := aM (bB (g := gb438) (o := .cells #[.slice Ao10 t431.length co10, .int .i64 t434] 26 (0, 0)) (xB BK438.out) hb); replace BK471 := aM (bB (g := gb471) (o := .cells #[.slice Ao65 t466.length co65, .int .i64 t469] 26 (0, 0)) (xB BK471.out) hb); replace BK477 := aM (bB (g := gb477) (o := .cells #[.slice Ao71 t472.length co71, .int .i64 t475] 26 (0, 0)) (xB BK477.out) hb); replace HB := aM (below_step (xG3 HB.out GE438.out GE471.out GE477.out) hb); (try clear hb; try clear hk; try clear hi)))
   repeat (go_quiet (first | (go_at_call 21; (with_reducible refine (impl_IsStrong.calls kj86 _ _ t431 t434 t483 t484 _ ?side1 ?side2 A97.out).mono ?_); (case side1 => exact xC (Kd.R_reads' HO_439000.out).2.2); (case side2 => exact (Kd.R_reads' HO_439000.out).2.1); rintro e w103 ⟨rfl, hb⟩; replace HO_4 := aM (Kd.R_below (xR HO_4.out) hb); replace HO_9 := aM (Kd.S_below (xS HO_9.out) hb); replace HO_13 := aM (Kd.S_below (xS HO_13.out) hb); replace HO_439000 := aM (Kd.R_below (xR HO_439000.out) hb); replace HO_472000 := aM (Kd.R_below (xR HO_472000.out) hb); replace HO_478000 := aM (Kd.R_below (xR HO_478000.out) hb); replace BK438 := aM (bB (g := gb438) (o := .cells #[.slice Ao10 t431.length co10, .int .i64 t434] 26 (0, 0)) (xB BK438.out) hb); replace BK471 := aM (bB (g := gb471) (o := .cells #[.slice Ao65 t466.length co65, .int .i64 t469] 26 (0, 0)) (xB BK471.out) hb); replace BK477 := aM (bB (g := gb477) (o := .cells #[.slice Ao71 t472.length co71, .int .i64 t475] 26 (0, 0)) (xB BK477.out) hb); replace HB := aM (below_step (xG3 HB.out GE438.out GE471.out GE477.out) hb); (try clear hb; try clear hk; try clear hi); have hcz104_0 : w103.cell? ⟨gb438, 0, none⟩ = some (.slice Ao10 t431.length co10) := (bC BK438.out 0).trans rfl; have hcz104_1 : w103.cell? ⟨gb438, 1, none⟩ = some (.int .i64 t434) := (bC BK438.out 1).trans rfl; have hfz104_0 := bF BK438.out 0; have hfz104_1 := bF BK438.out 1) | (go_at_call 22; (with_reducible refine (spec_IsStrong.calls kj86 _ _ t431 t434 t485 t486 _ ?side1 ?side2 A98.out).mono ?_); (case side1 => exact xC (Kd.R_reads' HO_439000.out).2.2); (case side2 => exact (Kd.R_reads' HO_439000.out).2.1); rintro e w105 ⟨rfl, hb⟩; replace HO_4 := aM (Kd.R_below (xR HO_4.out) hb); replace HO_9 := aM (Kd.S_below (xS HO_9.out) hb); replace HO_13 := aM (Kd.S_below (xS HO_13.out) hb); replace HO_439000 := aM (Kd.R_below (xR HO_439000.out) hb); replace HO_472000 := aM (Kd.R_below (xR HO_472000.out) hb); replace HO_478000 := aM (Kd.R_below (xR HO_478000.out) hb); replace BK438 := aM (bB (g := gb438) (o := .cells #[.slice Ao10 t431.length co10, .int .i64 t434] 26 (0, 0)) (xB BK438.out) hb); replace BK471 := aM (bB (g := gb471) (o := .cells #[.slice Ao65 t466.length co65, .int .i64 t469] 26 (0, 0)) (xB BK471.out) hb); replace BK477 := aM (bB (g := gb477) (o := .cells #[.slice Ao71 t472.length co71, .int .i64 t475] 26 (0, 0)) (xB BK477.out) hb); replace HB := aM (below_step (xG3 HB.out GE438.out GE471.out GE477.out) hb); (try clear hb; try clear hk; try clear hi))); go_upto_region 30 with (first | (go_at_call 21; (with_reducible refine (impl_IsStrong.calls kj86 _ _ t431 t434 t483 t484 _ ?side1 ?side2 A97.out).mono ?_); (case side1 => exact xC (Kd.R_reads' HO_439000.out).2.2); (case side2 => exact (Kd.R_reads' HO_439000.out).2.1); rintro e w103 ⟨rfl, hb⟩; replace HO_4 := aM (Kd.R_below (xR HO_4.out) hb); replace HO_9 := aM (Kd.S_below (xS HO_9.out) hb); replace HO_13 := aM (Kd.S_below (xS HO_13.out) hb); replace HO_439000 := aM (Kd.R_below (xR HO_439000.out) hb); replace HO_472000 := aM (Kd.R_below (xR HO_472000.out) hb); replace HO_478000 := aM (Kd.R_below (xR HO_478000.out) hb); replace BK438 := aM (bB (g := gb438) (o := .cells #[.slice Ao10 t431.length co10, .int .i64 t434] 26 (0, 0)) (xB BK438.out) hb); replace BK471 := aM (bB (g := gb471) (o := .cells #[.slice Ao65 t466.length co65, .int .i64 t469] 26 (0, 0)) (xB BK471.out) hb); replace BK477 := aM (bB (g := gb477) (o := .cells #[.slice Ao71 t472.length co71, .int .i64 t475] 26 (0, 0)) (xB BK477.out) hb); replace HB := aM (below_step (xG3 HB.out GE438.out GE471.out GE477.out) hb); (try clear hb; try clear hk; try clear hi); have hcz104_0 : w103.cell? ⟨gb438, 0, none⟩ = some (.slice Ao10 t431.length co10) := (bC BK438.out 0).trans rfl; have hcz104_1 : w103.cell? ⟨gb438, 1, none⟩ = some (.int .i64 t434) := (bC BK438.out 1).trans rfl; have hfz104_0 := bF BK438.out 0; have hfz104_1 := bF BK438.out 1) | (go_at_call 22; (with_reducible refine (spec_IsStrong.calls kj86 _ _ t431 t434 t485 t486 _ ?side1 ?side2 A98.out).mono ?_); (case side1 => exact xC (Kd.R_reads' HO_439000.out).2.2); (case side2 => exact (Kd.R_reads' HO_439000.out).2.1); rintro e w105 ⟨rfl, hb⟩; replace HO_4 := aM (Kd.R_below (xR HO_4.out) hb); replace HO_9 := aM (Kd.S_below (xS HO_9.out) hb); replace HO_13 := aM (Kd.S_below (xS HO_13.out) hb); replace HO_439000 := aM (Kd.R_below (xR HO_439000.out) hb); replace HO_472000 := aM (Kd.R_below (xR HO_472000.out) hb); replace HO_478000 := aM (Kd.R_below (xR HO_478000.out) hb); replace BK438 := aM (bB (g := gb438) (o := .cells #[.slice Ao10 t431.length co10, .int .i64 t434] 26 (0, 0)) (xB BK438.out) hb); replace BK471 := aM (bB (g := gb471) (o := .cells #[.slice Ao65 t466.length co65, .int .i64 t469] 26 (0, 0)) (xB BK471.out) hb); replace BK477 := aM (bB (g := gb477) (o := .cells #[.slice Ao71 t472.length co71, .int .i64 t475] 26 (0, 0)) (xB BK477.out) hb); replace HB := aM (below_step (xG3 HB.out GE438.out GE471.out GE477.out) hb); (try clear hb; try clear hk; try clear hi))))
   (try simp only [Act.put, sA, sZ, sU])
   go_cut [217] (fun v217 wc => ∃ (kq : Nat) (x217_98 : Bool), v217 = .bool x217_98 ∧ Aside0 (laws_FnVotes.j6 kq t435 t439 t440 t443 t446 t453 t462 t483 x217_98 t431 t434 t466 t469 = some r) ∧ Aside0 (kq ≤ kj86) ∧ Aside0 (Kd.R (Kd.int .i64) 3 wc w.heap.size (fun k_ => some k_ ≠ ((.slice Ao10 t431.length co10) : Value).ownBlock ∧ some k_ ≠ ((.slice Ao65 t466.length co65) : Value).ownBlock ∧ some k_ ≠ ((.slice Ao71 t472.length co71) : Value).ownBlock) (.slice Ao12 t435.length co12) t435) ∧ Aside0 (Kd.S (Kd.slice 3 (Kd.int .i64)) 24 wc w.heap.size (fun k_ => some k_ ≠ ((.slice Ao12 t435.length co12) : Value).ownBlock ∧ some k_ ≠ (v454 : Value).ownBlock ∧ some k_ ≠ ((.slice Ao10 t431.length co10) : Value).ownBlock ∧ some k_ ≠ ((.slice Ao65 t466.length co65) : Value).ownBlock ∧ some k_ ≠ ((.slice Ao71 t472.length co71) : Value).ownBlock) v444 t443) ∧ Aside0 (Kd.S (Kd.slice 3 (Kd.int .i64)) 24 wc w.heap.size (fun k_ => some k_ ≠ ((.slice Ao12 t435.length co12) : Value).ownBlock ∧ some k_ ≠ (v444 : Value).ownBlock ∧ some k_ ≠ ((.slice Ao10 t431.length co10) : Value).ownBlock ∧ some k_ ≠ ((.slice Ao65 t466.length co65) : Value).ownBlock ∧ some k_ ≠ ((.slice Ao71 t472.length co71) : Value).ownBlock) v454 t453) ∧ Aside0 (Kd.R (Kd.int .i64) 3 wc w.heap.size (fun k_ => some k_ ≠ ((.slice Ao12 t435.length co12) : Value).ownBlock ∧ some k_ ≠ ((.slice Ao65 t466.length co65) : Value).ownBlock ∧ some k_ ≠ ((.slice Ao71 t472.length co71) : Value).ownBlock) (.slice Ao10 t431.length co10) t431) ∧ Aside0 (Kd.R (Kd.int .i64) 3 wc w.heap.size (fun k_ => some k_ ≠ ((.slice Ao12 t435.length co12) : Value).ownBlock ∧ some k_ ≠ ((.slice Ao10 t431.length co10) : Value).ownBlock ∧ some k_ ≠ ((.slice Ao71 t472.length co71) : Value).ownBlock) (.slice Ao65 t466.length co65) t466) ∧ Aside0 (Kd.R (Kd.int .i64) 3 wc w.heap.size (fun k_ => some k_ ≠ ((.slice Ao12 t435.length co12) : Value).ownBlock ∧ some k_ ≠ ((.slice Ao10 t431.length co10) : Value).ownBlock ∧ some k_ ≠ ((.slice Ao65 t466.length co65) : Value).ownBlock) (.slice Ao71 t472.length co71) t472) ∧ Aside0 (wc.heap[gb438]? = some (.cells #[(.slice Ao10 t431.length co10), .int .i64 t434] 26 (0, 0))) ∧ Aside0 (wc.heap[gb471]? = some (.cells #[(.slice Ao65 t466.length co65), .int .i64 t469] 26 (0, 0))) ∧ Aside0 (wc.heap[gb477]? = some (.cells #[(.slice Ao71 t472.length co71), .int .i64 t475] 26 (0, 0))) ∧ Aside0 (Below w.heap.size w wc))
   case first =>
    as_aux_lemma =>
     have H := HC99.out
     clear HC99
     by_cases c106 : (t483 != t485) = true
     ·
      rw [if_pos c106] at H
      have c106b0 : (t483 != t485) = true := c106
      (try (have c106b1 : decide (t483 = t485) = false := by simpa using c106))
      (try (have c106b2 : (t483 == t485) = false := by simpa using c106))
      (try (have c106b3 : ¬ (t483 = t485) := by simpa using c106))
      clear c106
      (first | rw [c106b0] | (simp only [i64_w, i32_w]; rw [c106b0]) | skip)
      have H' := aM H
      clear H
      go_wp2
      repeat (go_quiet (fail); try go_wp2)
      go_meet
      case rel => exact ⟨_, (true), (by first | rfl | (simp; done) | (simp [*]; done)), H', ⟨by have := HJ6.out; have := HJ19.out; have := HJ37.out; have := HJ50.out; have := HJ60.out; have := HJ86.out; first | omega | exact Nat.le_refl _⟩, ⟨xR HO_4.out⟩, ⟨xS HO_9.out⟩, ⟨xS HO_13.out⟩, ⟨xR HO_439000.out⟩, ⟨xR HO_472000.out⟩, ⟨xR HO_478000.out⟩, ⟨xB BK438.out⟩, ⟨xB BK471.out⟩, ⟨xB BK477.out⟩, ⟨xG3 HB.out GE438.out GE471.out GE477.out⟩⟩
     ·
      rw [if_neg c106] at H
      have c106b0 : (t483 != t485) = false := by simpa using c106
      (try (have c106b1 : decide (t483 = t485) = true := by simpa using c106))
      (try (have c106b2 : (t483 == t485) = true := by simpa using c106))
      clear c106
      (first | rw [c106b0] | (simp only [i64_w, i32_w]; rw [c106b0]) | skip)
      by_cases c107 : (t484 != t486) = true
      ·
       rw [if_pos c107] at H
       have c107b0 : (t484 != t486) = true := c107
       (try (have c107b1 : decide (t484 = t486) = false := by simpa using c107))
       (try (have c107b2 : (t484 == t486) = false := by simpa using c107))
       (try (have c107b3 : ¬ (t484 = t486) := by simpa using c107))
       clear c107
       have H' := aM H
       clear H
       go_wp2
       repeat (go_quiet (fail); try go_wp2)
       go_meet
       case rel => exact ⟨_, (true), (by first | rfl | (simp; done) | (simp [*]; done)), H', ⟨by have := HJ6.out; have := HJ19.out; have := HJ37.out; have := HJ50.out; have := HJ60.out; have := HJ86.out; first | omega | exact Nat.le_refl _⟩, ⟨xR HO_4.out⟩, ⟨xS HO_9.out⟩, ⟨xS HO_13.out⟩, ⟨xR HO_439000.out⟩, ⟨xR HO_472000.out⟩, ⟨xR HO_478000.out⟩, ⟨xB BK438.out⟩, ⟨xB BK471.out⟩, ⟨xB BK477.out⟩, ⟨xG3 HB.out GE438.out GE471.out GE477.out⟩⟩
      ·
       rw [if_neg c107] at H
       have c107b0 : (t484 != t486) = false := by simpa using c107
       (try (have c107b1 : decide (t484 = t486) = true := by simpa using c107))
       (try (have c107b2 : (t484 == t486) = true := by simpa using c107))
       clear c107
       have H' := aM H
       clear H
       go_wp2
       repeat (go_quiet (fail); try go_wp2)
       go_meet
       case rel => exact ⟨_, ((t484 != t446)), (by first | rfl | (simp; done) | (simp [*]; done)), H', ⟨by have := HJ6.out; have := HJ19.out; have := HJ37.out; have := HJ50.out; have := HJ60.out; have := HJ86.out; first | omega | exact Nat.le_refl _⟩, ⟨xR HO_4.out⟩, ⟨xS HO_9.out⟩, ⟨xS HO_13.out⟩, ⟨xR HO_439000.out⟩, ⟨xR HO_472000.out⟩, ⟨xR HO_478000.out⟩, ⟨xB BK438.out⟩, ⟨xB BK471.out⟩, ⟨xB BK477.out⟩, ⟨xG3 HB.out GE438.out GE471.out GE477.out⟩⟩
   case rest =>
    as_aux_lemma =>
     clear HC99
     try clear c96; try clear c106; try clear c106b0; try clear c106b1; try clear c106b2; try clear c107; try clear c107b0; try clear c107b1; try clear c107b2; try clear hcz102_0; try clear hcz102_1; try clear hcz104_0; try clear hcz104_1; try clear hfz102_0; try clear hfz102_1; try clear hfz104_0; try clear hfz104_1
     obtain ⟨kq, x217_98, rfl, HA, HJ98, HO_4, HO_9, HO_13, HO_439000, HO_472000, HO_478000, BK438, BK471, BK477, HB⟩ := hcut
     cases kq with
     | zero => exact absurd HA.out (by simp [laws_FnVotes.j6])
     | succ kj98 =>
      have H := HA.out
      clear HA
      simp only [laws_FnVotes.j6] at H
      by_cases c108 : x217_98 = true
      ·
       subst c108
       have H1 : (none) = some r := by rw [if_pos rfl] at H; exact H
       clear H
       have H := H1
       clear H1
       exact absurd H (by simp)
      ·
       replace c108 := Bool.eq_false_iff.mpr c108
       subst c108
       have H1 : (if t446 = true then ((impl_IsProper.f kj98 t466 t469).bind fun bt487 => ((impl_CountWins.f kj98 t466 t469).bind fun bt489 => (if bt487.2 = true then (if bt489.2 = true then (if (bt487.1 != t483) = true then (laws_FnVotes.j7 kj98 t435 t439 t440 t443 t453 true t431 t434 t466 t469) else (laws_FnVotes.j7 kj98 t435 t439 t440 t443 t453 ((wrap64 (t462 + bt489.1)) != (shl .i64 1 (t431.length : Int))) t431 t434 t466 t469)) else (laws_FnVotes.j7 kj98 t435 t439 t440 t443 t453 true t431 t434 t466 t469)) else (laws_FnVotes.j7 kj98 t435 t439 t440 t443 t453 true t431 t434 t466 t469)))) else (some (!t440))) = some r := by rw [if_neg (show ¬ (false = true) by decide)] at H; exact H
       clear H
       have H := H1
       clear H1
       by_cases c109 : t446 = true
       ·
        subst c109
        have H1 : ((impl_IsProper.f kj98 t466 t469).bind fun bt487 => ((impl_CountWins.f kj98 t466 t469).bind fun bt489 => (if bt487.2 = true then (if bt489.2 = true then (if (bt487.1 != t483) = true then (laws_FnVotes.j7 kj98 t435 t439 t440 t443 t453 true t431 t434 t466 t469) else (laws_FnVotes.j7 kj98 t435 t439 t440 t443 t453 ((wrap64 (t462 + bt489.1)) != (shl .i64 1 (t431.length : Int))) t431 t434 t466 t469)) else (laws_FnVotes.j7 kj98 t435 t439 t440 t443 t453 true t431 t434 t466 t469)) else (laws_FnVotes.j7 kj98 t435 t439 t440 t443 t453 true t431 t434 t466 t469)))) = some r := by rw [if_pos rfl] at H; exact H
        clear H
        have H := H1
        clear H1
        replace H := oB.mp H
        obtain ⟨⟨t487, t488⟩, A1100, H⟩ := H
        replace H : ((impl_CountWins.f kj98 t466 t469).bind fun bt489 => (if t488 = true then (if bt489.2 = true then (if (t487 != t483) = true then (laws_FnVotes.j7 kj98 t435 t439 t440 t443 t453 true t431 t434 t466 t469) else (laws_FnVotes.j7 kj98 t435 t439 t440 t443 t453 ((wrap64 (t462 + bt489.1)) != (shl .i64 1 (t431.length : Int))) t431 t434 t466 t469)) else (laws_FnVotes.j7 kj98 t435 t439 t440 t443 t453 true t431 t434 t466 t469)) else (laws_FnVotes.j7 kj98 t435 t439 t440 t443 t453 true t431 t434 t466 t469))) = some r := H
        have A110 := aM A1100
        clear A1100
        replace H := oB.mp H
        obtain ⟨⟨t489, t490⟩, A1110, H⟩ := H
        replace H : (if t488 = true then (if t490 = true then (if (t487 != t483) = true then (laws_FnVotes.j7 kj98 t435 t439 t440 t443 t453 true t431 t434 t466 t469) else (laws_FnVotes.j7 kj98 t435 t439 t440 t443 t453 ((wrap64 (t462 + t489)) != (shl .i64 1 (t431.length : Int))) t431 t434 t466 t469)) else (laws_FnVotes.j7 kj98 t435 t439 t440 t443 t453 true t431 t434 t466 t469)) else (laws_FnVotes.j7 kj98 t435 t439 t440 t443 t453 true t431 t434 t466 t469)) = some r := H
        have A111 := aM A1110
        clear A1110
        have HC112 := aM H
        clear H
        have hnb113 := NB471_438.out
        have hnc113 := NB438_471.out
        have hnb114 := NB471_477.out
        have hnc114 := NB477_471.out
        have hcz115_0 : wc.cell? ⟨gb471, 0, none⟩ = some (.slice Ao65 t466.length co65) := (bC BK471.out 0).trans rfl
        have hcz115_1 : wc.cell? ⟨gb471, 1, none⟩ = some (.int .i64 t469) := (bC BK471.out 1).trans rfl
        have hfz115_0 := bF BK471.out 0
        have hfz115_1 := bF BK471.out 1
        go_upto_region 36 with (first | (go_at_call 19; (with_reducible refine (impl_IsProper.calls kj98 _ _ t466 t469 t487 t488 _ ?side1 ?side2 A110.out).mono ?_); (case side1 => exact xC (Kd.R_reads' HO_472000.out).2.2); (case side2 => exact (Kd.R_reads' HO_472000.out).2.1); rintro e w116 ⟨rfl, hb⟩; replace HO_4 := aM (Kd.R_below (xR HO_4.out) hb); replace HO_9 := aM (Kd.S_below (xS HO_9.out) hb); replace HO_13 := aM (Kd.S_below (xS HO_13.out) hb); replace HO_439000 := aM (Kd.R_below (xR HO_439000.out) hb); replace HO_472000 := aM (Kd.R_below (xR HO_472000.out) hb); replace HO_478000 := aM (Kd.R_below (xR HO_478000.out) hb); replace BK438 := aM (bB (g := gb438) (o := .cells #[.slice Ao10 t431.length co10, .int .i64 t434] 26 (0, 0)) (xB BK438.out) hb); replace BK471 := aM (bB (g := gb471) (o := .cells #[.slice Ao65 t466.length co65, .int .i64 t469] 26 (0, 0)) (xB BK471.out) hb); replace BK477 := aM (bB (g := gb477) (o := .cells #[.slice Ao71 t472.length co71, .int .i64 t475] 26 (0, 0)) (xB BK477.out) hb); replace HB := aM (below_step (xG3 HB.out GE438.out GE471.out GE477.out) hb); (try clear hb; try clear hk; try clear hi); have hcz117_0 : w116.cell? ⟨gb471, 0, none⟩ = some (.slice Ao65 t466.length co65) := (bC BK471.out 0).trans rfl; have hcz117_1 : w116.cell? ⟨gb471, 1, none⟩ = some (.int .i64 t469) := (bC BK471.out 1).trans rfl; have hfz117_0 := bF BK471.out 0; have hfz117_1 := bF BK471.out 1) | (go_at_call 14; (with_reducible refine (impl_CountWins.calls kj98 _ _ t466 t469 t489 t490 _ ?side1 ?side2 A111.out ?tabG_ ?tabT_).mono ?_); (case tabG_ => exact (Nat.lt_of_lt_of_le HTG_.out (below_size (xG3 HB.out GE438.out GE471.out GE477.out)))); (case tabT_ => exact tab_below HTT_.out HTG_.out (xG3 HB.out GE438.out GE471.out GE477.out)); (case side1 => exact xC (Kd.R_reads' HO_472000.out).2.2); (case side2 => exact (Kd.R_reads' HO_472000.out).2.1); rintro e w118 ⟨rfl, hb⟩; replace HO_4 := aM (Kd.R_below (xR HO_4.out) hb); replace HO_9 := aM (Kd.S_below (xS HO_9.out) hb); replace HO_13 := aM (Kd.S_below (xS HO_13.out) hb); replace HO_439000 := aM (Kd.R_below (xR HO_439000.out) hb); replace HO_472000 := aM (Kd.R_below (xR HO_472000.out) hb); replace HO_478000 := aM (Kd.R_below (xR HO_478000.out) hb); replace BK438 := aM (bB (g := gb438) (o := .cells #[.slice Ao10 t431.length co10, .int .i64 t434] 26 (0, 0)) (xB BK438.out) hb); replace BK471 := aM (bB (g := gb471) (o := .cells #[.slice Ao65 t466.length co65, .int .i64 t469] 26 (0, 0)) (xB BK471.out) hb); replace BK477 := aM (bB (g := gb477) (o := .cells #[.slice Ao71 t472.length co71, .int .i64 t475] 26 (0, 0)) (xB BK477.out) hb); replace HB := aM (below_step (xG3 HB.out GE438.out GE471.out GE477.out) hb); (try clear hb; try clear hk; try clear hi)))
        repeat (go_quiet (first | (go_at_call 19; (with_reducible refine (impl_IsProper.calls kj98 _ _ t466 t469 t487 t488 _ ?side1 ?side2 A110.out).mono ?_); (case side1 => exact xC (Kd.R_reads' HO_472000.out).2.2); (case side2 => exact (Kd.R_reads' HO_472000.out).2.1); rintro e w116 ⟨rfl, hb⟩; replace HO_4 := aM (Kd.R_below (xR HO_4.out) hb); replace HO_9 := aM (Kd.S_below (xS HO_9.out) hb); replace HO_13 := aM (Kd.S_below (xS HO_13.out) hb); replace HO_439000 := aM (Kd.R_below (xR HO_439000.out) hb); replace HO_472000 := aM (Kd.R_below (xR HO_472000.out) hb); replace HO_478000 := aM (Kd.R_below (xR HO_478000.out) hb); replace BK438 := aM (bB (g := gb438) (o := .cells #[.slice Ao10 t431.length co10, .int .i64 t434] 26 (0, 0)) (xB BK438.out) hb); replace BK471 := aM (bB (g := gb471) (o := .cells #[.slice Ao65 t466.length co65, .int .i64 t469] 26 (0, 0)) (xB BK471.out) hb); replace BK477 := aM (bB (g := gb477) (o := .cells #[.slice Ao71 t472.length co71, .int .i64 t475] 26 (0, 0)) (xB BK477.out) hb); replace HB := aM (below_step (xG3 HB.out GE438.out GE471.out GE477.out) hb); (try clear hb; try clear hk; try clear hi); have hcz117_0 : w116.cell? ⟨gb471, 0, none⟩ = some (.slice Ao65 t466.length co65) := (bC BK471.out 0).trans rfl; have hcz117_1 : w116.cell? ⟨gb471, 1, none⟩ = some (.int .i64 t469) := (bC BK471.out 1).trans rfl; have hfz117_0 := bF BK471.out 0; have hfz117_1 := bF BK471.out 1) | (go_at_call 14; (with_reducible refine (impl_CountWins.calls kj98 _ _ t466 t469 t489 t490 _ ?side1 ?side2 A111.out ?tabG_ ?tabT_).mono ?_); (case tabG_ => exact (Nat.lt_of_lt_of_le HTG_.out (below_size (xG3 HB.out GE438.out GE471.out GE477.out)))); (case tabT_ => exact tab_below HTT_.out HTG_.out (xG3 HB.out GE438.out GE471.out GE477.out)); (case side1 => exact xC (Kd.R_reads' HO_472000.out).2.2); (case side2 => exact (Kd.R_reads' HO_472000.out).2.1); rintro e w118 ⟨rfl, hb⟩; replace HO_4 := aM (Kd.R_below (xR HO_4.out) hb); replace HO_9 := aM (Kd.S_below (xS HO_9.out) hb); replace HO_13 := aM (Kd.S_below (xS HO_13.out) hb); replace HO_439000 := aM (Kd.R_below (xR HO_439000.out) hb); replace HO_472000 := aM (Kd.R_below (xR HO_472000.out) hb); replace HO_478000 := aM (Kd.R_below (xR HO_478000.out) hb); replace BK438 := aM (bB (g := gb438) (o := .cells #[.slice Ao10 t431.length co10, .int .i64 t434] 26 (0, 0)) (xB BK438.out) hb); replace BK471 := aM (bB (g := gb471) (o := .cells #[.slice Ao65 t466.length co65, .int .i64 t469] 26 (0, 0)) (xB BK471.out) hb); replace BK477 := aM (bB (g := gb477) (o := .cells #[.slice Ao71 t472.length co71, .int .i64 t475] 26 (0, 0)) (xB BK477.out) hb); replace HB := aM (below_step (xG3 HB.out GE438.out GE471.out GE477.out) hb); (try clear hb; try clear hk; try clear hi))); go_upto_region 36 with (first | (go_at_call 19; (with_reducible refine (impl_IsProper.calls kj98 _ _ t466 t469 t487 t488 _ ?side1 ?side2 A110.out).mono ?_); (case side1 => exact xC (Kd.R_reads' HO_472000.out).2.2); (case side2 => exact (Kd.R_reads' HO_472000.out).2.1); rintro e w116 ⟨rfl, hb⟩; replace HO_4 := aM (Kd.R_below (xR HO_4.out) hb); replace HO_9 := aM (Kd.S_below (xS HO_9.out) hb); replace HO_13 := aM (Kd.S_below (xS HO_13.out) hb); replace HO_439000 := aM (Kd.R_below (xR HO_439000.out) hb); replace HO_472000 := aM (Kd.R_below (xR HO_472000.out) hb); replace HO_478000 := aM (Kd.R_below (xR HO_478000.out) hb); replace BK438 := aM (bB (g := gb438) (o := .cells #[.slice Ao10 t431.length co10, .int .i64 t434] 26 (0, 0)) (xB BK438.out) hb); replace BK471 := aM (bB (g := gb471) (o := .cells #[.slice Ao65 t466.length co65, .int .i64 t469] 26 (0, 0)) (xB BK471.out) hb); replace BK477 := aM (bB (g := gb477) (o := .cells #[.slice Ao71 t472.length co71, .int .i64 t475] 26 (0, 0)) (xB BK477.out) hb); replace HB := aM (below_step (xG3 HB.out GE438.out GE471.out GE477.out) hb); (try clear hb; try clear hk; try clear hi); have hcz117_0 : w116.cell? ⟨gb471, 0, none⟩ = some (.slice Ao65 t466.length co65) := (bC BK471.out 0).trans rfl; have hcz117_1 : w116.cell? ⟨gb471, 1, none⟩ = some (.int .i64 t469) := (bC BK471.out 1).trans rfl; have hfz117_0 := bF BK471.out 0; have hfz117_1 := bF BK471.out 1) | (go_at_call 14; (with_reducible refine (impl_CountWins.calls kj98 _ _ t466 t469 t489 t490 _ ?side1 ?side2 A111.out ?tabG_ ?tabT_).mono ?_); (case tabG_ => exact (Nat.lt_of_lt_of_le HTG_.out (below_size (xG3 HB.out GE438.out GE471.out GE477.out)))); (case tabT_ => exact tab_below HTT_.out HTG_.out (xG3 HB.out GE438.out GE471.out GE477.out)); (case side1 => exact xC (Kd.R_reads' HO_472000.out).2.2); (case side2 => exact (Kd.R_reads' HO_472000.out).2.1); rintro e w118 ⟨rfl, hb⟩; replace HO_4 := aM (Kd.R_below (xR HO_4.out) hb); replace HO_9 := aM (Kd.S_below (xS HO_9.out) hb); replace HO_13 := aM (Kd.S_below (xS HO_13.out) hb); replace HO_439000 := aM (Kd.R_below (xR HO_439000.out) hb); replace HO_472000 := aM (Kd.R_below (xR HO_472000.out) hb); replace HO_478000 := aM (Kd.R_below (xR HO_478000.out) hb); replace BK438 := aM (bB (g := gb438) (o := .cells #[.slice Ao10 t431.length co10, .int .i64 t434] 26 (0, 0)) (xB BK438.out) hb); replace BK471 := aM (bB (g := gb471) (o := .cells #[.slice Ao65 t466.length co65, .int .i64 t469] 26 (0, 0)) (xB BK471.out) hb); replace BK477 := aM (bB (g := gb477) (o := .cells #[.slice Ao71 t472.length co71, .int .i64 t475] 26 (0, 0)) (xB BK477.out) hb); replace HB := aM (below_step (xG3 HB.out GE438.out GE471.out GE477.out) hb); (try clear hb; try clear hk; try clear hi))))
        (try simp only [Act.put, sA, sZ, sU])
        go_cut [252] (fun v252 wc => ∃ (kq : Nat) (x252_111 : Bool), v252 = .bool x252_111 ∧ Aside0 (laws_FnVotes.j7 kq t435 t439 t440 t443 t453 x252_111 t431 t434 t466 t469 = some r) ∧ Aside0 (kq ≤ kj98) ∧ Aside0 (Kd.R (Kd.int .i64) 3 wc w.heap.size (fun k_ => some k_ ≠ ((.slice Ao10 t431.length co10) : Value).ownBlock ∧ some k_ ≠ ((.slice Ao65 t466.length co65) : Value).ownBlock ∧ some k_ ≠ ((.slice Ao71 t472.length co71) : Value).ownBlock) (.slice Ao12 t435.length co12) t435) ∧ Aside0 (Kd.S (Kd.slice 3 (Kd.int .i64)) 24 wc w.heap.size (fun k_ => some k_ ≠ ((.slice Ao12 t435.length co12) : Value).ownBlock ∧ some k_ ≠ (v454 : Value).ownBlock ∧ some k_ ≠ ((.slice Ao10 t431.length co10) : Value).ownBlock ∧ some k_ ≠ ((.slice Ao65 t466.length co65) : Value).ownBlock ∧ some k_ ≠ ((.slice Ao71 t472.length co71) : Value).ownBlock) v444 t443) ∧ Aside0 (Kd.S (Kd.slice 3 (Kd.int .i64)) 24 wc w.heap.size (fun k_ => some k_ ≠ ((.slice Ao12 t435.length co12) : Value).ownBlock ∧ some k_ ≠ (v444 : Value).ownBlock ∧ some k_ ≠ ((.slice Ao10 t431.length co10) : Value).ownBlock ∧ some k_ ≠ ((.slice Ao65 t466.length co65) : Value).ownBlock ∧ some k_ ≠ ((.slice Ao71 t472.length co71) : Value).ownBlock) v454 t453) ∧ Aside0 (Kd.R (Kd.int .i64) 3 wc w.heap.size (fun k_ => some k_ ≠ ((.slice Ao12 t435.length co12) : Value).ownBlock ∧ some k_ ≠ ((.slice Ao65 t466.length co65) : Value).ownBlock ∧ some k_ ≠ ((.slice Ao71 t472.length co71) : Value).ownBlock) (.slice Ao10 t431.length co10) t431) ∧ Aside0 (Kd.R (Kd.int .i64) 3 wc w.heap.size (fun k_ => some k_ ≠ ((.slice Ao12 t435.length co12) : Value).ownBlock ∧ some k_ ≠ ((.slice Ao10 t431.length co10) : Value).ownBlock ∧ some k_ ≠ ((.slice Ao71 t472.length co71) : Value).ownBlock) (.slice Ao65 t466.length co65) t466) ∧ Aside0 (Kd.R (Kd.int .i64) 3 wc w.heap.size (fun k_ => some k_ ≠ ((.slice Ao12 t435.length co12) : Value).ownBlock ∧ some k_ ≠ ((.slice Ao10 t431.length co10) : Value).ownBlock ∧ some k_ ≠ ((.slice Ao65 t466.length co65) : Value).ownBlock) (.slice Ao71 t472.length co71) t472) ∧ Aside0 (wc.heap[gb438]? = some (.cells #[(.slice Ao10 t431.length co10), .int .i64 t434] 26 (0, 0))) ∧ Aside0 (wc.heap[gb471]? = some (.cells #[(.slice Ao65 t466.length co65), .int .i64 t469] 26 (0, 0))) ∧ Aside0 (wc.heap[gb477]? = some (.cells #[(.slice Ao71 t472.length co71), .int .i64 t475] 26 (0, 0))) ∧ Aside0 (Below w.heap.size w wc))
        case first =>
         as_aux_lemma =>
          have H := HC112.out
          clear HC112
          by_cases c119 : t488 = true
          ·
           subst c119
           have H1 : (if t490 = true then (if (t487 != t483) = true then (laws_FnVotes.j7 kj98 t435 t439 t440 t443 t453 true t431 t434 t466 t469) else (laws_FnVotes.j7 kj98 t435 t439 t440 t443 t453 ((wrap64 (t462 + t489)) != (shl .i64 1 (t431.length : Int))) t431 t434 t466 t469)) else (laws_FnVotes.j7 kj98 t435 t439 t440 t443 t453 true t431 t434 t466 t469)) = some r := by rw [if_pos rfl] at H; exact H
           clear H
           have H := H1
           clear H1
           by_cases c120 : t490 = true
           ·
            subst c120
            have H1 : (if (t487 != t483) = true then (laws_FnVotes.j7 kj98 t435 t439 t440 t443 t453 true t431 t434 t466 t469) else (laws_FnVotes.j7 kj98 t435 t439 t440 t443 t453 ((wrap64 (t462 + t489)) != (shl .i64 1 (t431.length : Int))) t431 t434 t466 t469)) = some r := by rw [if_pos rfl] at H; exact H
            clear H
            have H := H1
            clear H1
            by_cases c121 : (t487 != t483) = true
            ·
             rw [if_pos c121] at H
             have c121b0 : (t487 != t483) = true := c121
             (try (have c121b1 : decide (t487 = t483) = false := by simpa using c121))
             (try (have c121b2 : (t487 == t483) = false := by simpa using c121))
             (try (have c121b3 : ¬ (t487 = t483) := by simpa using c121))
             clear c121
             (first | rw [c121b0] | (simp only [i64_w, i32_w]; rw [c121b0]) | skip)
             have H' := aM H
             clear H
             go_wp2
             repeat (go_quiet (fail); try go_wp2)
             go_meet
             case rel => exact ⟨_, (true), (by first | rfl | (simp; done) | (simp [*]; done)), H', ⟨by have := HJ6.out; have := HJ19.out; have := HJ37.out; have := HJ50.out; have := HJ60.out; have := HJ86.out; have := HJ98.out; first | omega | exact Nat.le_refl _⟩, ⟨xR HO_4.out⟩, ⟨xS HO_9.out⟩, ⟨xS HO_13.out⟩, ⟨xR HO_439000.out⟩, ⟨xR HO_472000.out⟩, ⟨xR HO_478000.out⟩, ⟨xB BK438.out⟩, ⟨xB BK471.out⟩, ⟨xB BK477.out⟩, ⟨xG3 HB.out GE438.out GE471.out GE477.out⟩⟩
            ·
             rw [if_neg c121] at H
             have c121b0 : (t487 != t483) = false := by simpa using c121
             (try (have c121b1 : decide (t487 = t483) = true := by simpa using c121))
             (try (have c121b2 : (t487 == t483) = true := by simpa using c121))
             clear c121
             (first | rw [c121b0] | (simp only [i64_w, i32_w]; rw [c121b0]) | skip)
             obtain ⟨ji122, hji122⟩ : ∃ j_ : Int, (shl .i64 1 (t431.length : Int)) = j_ := ⟨_, rfl⟩
             replace H : (laws_FnVotes.j7 kj98 t435 t439 t440 t443 t453 ((wrap64 (t462 + t489)) != (ji122)) t431 t434 t466 t469) = some r := by first | (rw [hji122] at H; exact H) | (simp only [hji122] at H ⊢; exact H)
             have hji122_ : (IntKind.i64.wrap (1 * 2 ^ min (t431.length : Int).toNat 64)) = ji122 := hji122
             have hji122z : (t431.length : Int) ≤ 64 → (IntKind.i64.wrap (1 * 2 ^ (t431.length : Int).toNat)) = ji122 := shl_small hji122
             have hji122p : (IntKind.i64.wrap (1 * 2 ^ min t431.length 64)) = ji122 := hji122_
             have hji122q : (t431.length : Int) ≤ 64 → (IntKind.i64.wrap (1 * 2 ^ t431.length)) = ji122 := hji122z
             have hji122r : (IntKind.i64.wrap (2 ^ min t431.length 64)) = ji122 := by have h_ := hji122p; rw [Int.one_mul] at h_; exact h_
             have hji122s : (t431.length : Int) ≤ 64 → (IntKind.i64.wrap (2 ^ t431.length)) = ji122 := fun hle_ => by have h_ := hji122q hle_; rw [Int.one_mul] at h_; exact h_
             have hji122u : (IntKind.i64.wrap (2 ^ min (t431.length : Int).toNat 64)) = ji122 := by have h_ := hji122_; rw [Int.one_mul] at h_; exact h_
             have hji122v : (t431.length : Int) ≤ 64 → (IntKind.i64.wrap (2 ^ (t431.length : Int).toNat)) = ji122 := fun hle_ => by have h_ := hji122z hle_; rw [Int.one_mul] at h_; exact h_
             have hji122y : (wrap64 (1 * 2 ^ min (t431.length : Int).toNat 64)) = ji122 := (i64_w _).symm.trans hji122_
             have hji122x : (t431.length : Int) ≤ 64 → (wrap64 (1 * 2 ^ (t431.length : Int).toNat)) = ji122 := fun h_ => (i64_w _).symm.trans (hji122z h_)
             have H' := aM H
             clear H
             have hnb123 := NB438_471.out
             have hnc123 := NB471_438.out
             have hnb124 := NB438_477.out
             have hnc124 := NB477_438.out
             have hcz125_0 : w118.cell? ⟨gb438, 0, none⟩ = some (.slice Ao10 t431.length co10) := (bC BK438.out 0).trans rfl
             have hcz125_1 : w118.cell? ⟨gb438, 1, none⟩ = some (.int .i64 t434) := (bC BK438.out 1).trans rfl
             have hfz125_0 := bF BK438.out 0
             have hfz125_1 := bF BK438.out 1
             go_wp2
             repeat (go_quiet (fail); try go_wp2)
             (try subst hji122)
             go_meet
             case rel => exact ⟨_, (((wrap64 (t462 + t489)) != ((shl .i64 1 (t431.length : Int))))), (by first | rfl | (simp; done) | (simp only [← hji122] <;> (first | rfl | simp)) | (simp [*]; done)), H', ⟨by have := HJ6.out; have := HJ19.out; have := HJ37.out; have := HJ50.out; have := HJ60.out; have := HJ86.out; have := HJ98.out; first | omega | exact Nat.le_refl _⟩, ⟨xR HO_4.out⟩, ⟨xS HO_9.out⟩, ⟨xS HO_13.out⟩, ⟨xR HO_439000.out⟩, ⟨xR HO_472000.out⟩, ⟨xR HO_478000.out⟩, ⟨xB BK438.out⟩, ⟨xB BK471.out⟩, ⟨xB BK477.out⟩, ⟨xG3 HB.out GE438.out GE471.out GE477.out⟩⟩
           ·
            replace c120 := Bool.eq_false_iff.mpr c120
            subst c120
            have H1 : (laws_FnVotes.j7 kj98 t435 t439 t440 t443 t453 true t431 t434 t466 t469) = some r := by rw [if_neg (show ¬ (false = true) by decide)] at H; exact H
            clear H
            have H := H1
            clear H1
            have H' := aM H
            clear H
            go_wp2
            repeat (go_quiet (fail); try go_wp2)
            go_meet
            case rel => exact ⟨_, (true), (by first | rfl | (simp; done) | (simp [*]; done)), H', ⟨by have := HJ6.out; have := HJ19.out; have := HJ37.out; have := HJ50.out; have := HJ60.out; have := HJ86.out; have := HJ98.out; first | omega | exact Nat.le_refl _⟩, ⟨xR HO_4.out⟩, ⟨xS HO_9.out⟩, ⟨xS HO_13.out⟩, ⟨xR HO_439000.out⟩, ⟨xR HO_472000.out⟩, ⟨xR HO_478000.out⟩, ⟨xB BK438.out⟩, ⟨xB BK471.out⟩, ⟨xB BK477.out⟩, ⟨xG3 HB.out GE438.out GE471.out GE477.out⟩⟩
          ·
           replace c119 := Bool.eq_false_iff.mpr c119
           subst c119
           have H1 : (laws_FnVotes.j7 kj98 t435 t439 t440 t443 t453 true t431 t434 t466 t469) = some r := by rw [if_neg (show ¬ (false = true) by decide)] at H; exact H
           clear H
           have H := H1
           clear H1
           have H' := aM H
           clear H
           go_wp2
           repeat (go_quiet (fail); try go_wp2)
           go_meet
           case rel => exact ⟨_, (true), (by first | rfl | (simp; done) | (simp [*]; done)), H', ⟨by have := HJ6.out; have := HJ19.out; have := HJ37.out; have := HJ50.out; have := HJ60.out; have := HJ86.out; have := HJ98.out; first | omega | exact Nat.le_refl _⟩, ⟨xR HO_4.out⟩, ⟨xS HO_9.out⟩, ⟨xS HO_13.out⟩, ⟨xR HO_439000.out⟩, ⟨xR HO_472000.out⟩, ⟨xR HO_478000.out⟩, ⟨xB BK438.out⟩, ⟨xB BK471.out⟩, ⟨xB BK477.out⟩, ⟨xG3 HB.out GE438.out GE471.out GE477.out⟩⟩
        case rest =>
         as_aux_lemma =>
          clear HC112
          try clear c108; try clear c109; try clear c119; try clear c120; try clear c121; try clear c121b0; try clear c121b1; try clear c121b2; try clear hcz115_0; try clear hcz115_1; try clear hcz117_0; try clear hcz117_1; try clear hcz125_0; try clear hcz125_1; try clear hfz115_0; try clear hfz115_1; try clear hfz117_0; try clear hfz117_1; try clear hfz125_0; try clear hfz125_1
          obtain ⟨kq, x252_111, rfl, HA, HJ111, HO_4, HO_9, HO_13, HO_439000, HO_472000, HO_478000, BK438, BK471, BK477, HB⟩ := hcut
          cases kq with
          | zero => exact absurd HA.out (by simp [laws_FnVotes.j7])
          | succ kj111 =>
           have H := HA.out
           clear HA
           simp only [laws_FnVotes.j7] at H
           by_cases c126 : x252_111 = true
           ·
            subst c126
            have H1 : (none) = some r := by rw [if_pos rfl] at H; exact H
            clear H
            have H := H1
            clear H1
            exact absurd H (by simp)
           ·
            replace c126 := Bool.eq_false_iff.mpr c126
            subst c126
            have H1 : (if t440 = true then (laws_FnVotes.l0 kj111 t435 t439 t443 t453 (([] : List Int)) 0 t431 t434 t466 t469) else (some true)) = some r := by rw [if_neg (show ¬ (false = true) by decide)] at H; exact H
            clear H
            have H := H1
            clear H1
            by_cases c127 : t440 = true
            ·
             subst c127
             have H1 : (laws_FnVotes.l0 kj111 t435 t439 t443 t453 (([] : List Int)) 0 t431 t434 t466 t469) = some r := by rw [if_pos rfl] at H; exact H
             clear H
             have H := H1
             clear H1
             obtain ⟨y491, hy491⟩ : ∃ y_ : List Int, y_ = (([] : List Int)) := ⟨_, rfl⟩
             replace H : (laws_FnVotes.l0 kj111 t435 t439 t443 t453 y491 0 t431 t434 t466 t469) = some r := by first | (rw [hy491]; with_reducible exact H) | (have H2_ := (Option.bind_some _ _).symm.trans H; rw [hy491]; with_reducible exact H2_) | (have H2_ := (Option.bind_some _ _).symm.trans H; with_reducible exact H2_) | with_reducible exact H | (rw [hy491]; exact H) | exact H
             have Ny491 := aM hy491
             clear hy491
             have H' := aM H
             clear H
             go_wp2_with (first | ((with_reducible refine gate_dst (N := 255) rfl ?_); (try (refine gate_guard (by rfl) ?_; dsimp only)); refine Kd.R_lit (Kd.int .i64) _ 3 ?hg (N := 255) ?hd (xs := ([] : List Int)) (inner := []) (ok := fun _ => True) (okp := fun _ => True) ?hr ?hp (fun _ hk => hk) trivial (Below.refl _ _) (Nat.le_refl _) (by simp) ?_; (case hd => rfl); (case hg => rfl); (case hr => first | (go_simp; done) | (go_simp; rfl)); (case hp => exact (Reps.none _ _)); intro v492 w128 ho129 hb hg_ hnew_; clear hg_ hnew_; (first | rw [← Ny491.out] at ho129 | (simp only [Int.reduceToNat] at ho129; rw [← Ny491.out] at ho129)); replace HO_9 := aM (Kd.S_elder' (xS HO_9.out) (Kd.R_base ho129) hb); replace HO_13 := aM (Kd.S_elder' (xS HO_13.out) (Kd.R_base ho129) hb); have HO493 := aM (Kd.R_lower (Kd.R_new' (Kd.R_new' (Kd.R_new' (Kd.R_new' ho129 (Kd.R_lt (xR HO_4.out))) (Kd.R_lt (xR HO_439000.out))) (Kd.R_lt (xR HO_472000.out))) (Kd.R_lt (xR HO_478000.out))) (below_size (xG3 HB.out GE438.out GE471.out GE477.out))); replace HO_4 := aM (Kd.R_elder' (xR HO_4.out) (Kd.R_base ho129) hb); replace HO_439000 := aM (Kd.R_elder' (xR HO_439000.out) (Kd.R_base ho129) hb); replace HO_472000 := aM (Kd.R_elder' (xR HO_472000.out) (Kd.R_base ho129) hb); replace HO_478000 := aM (Kd.R_elder' (xR HO_478000.out) (Kd.R_base ho129) hb); replace BK438 := aM (bB (g := gb438) (o := .cells #[.slice Ao10 t431.length co10, .int .i64 t434] 26 (0, 0)) (xB BK438.out) hb); replace BK471 := aM (bB (g := gb471) (o := .cells #[.slice Ao65 t466.length co65, .int .i64 t469] 26 (0, 0)) (xB BK471.out) hb); replace BK477 := aM (bB (g := gb477) (o := .cells #[.slice Ao71 t472.length co71, .int .i64 t475] 26 (0, 0)) (xB BK477.out) hb); replace HB := aM (below_step (xG3 HB.out GE438.out GE471.out GE477.out) hb); clear hb ho129))
             repeat (go_quiet (first | ((with_reducible refine gate_dst (N := 255) rfl ?_); (try (refine gate_guard (by rfl) ?_; dsimp only)); refine Kd.R_lit (Kd.int .i64) _ 3 ?hg (N := 255) ?hd (xs := ([] : List Int)) (inner := []) (ok := fun _ => True) (okp := fun _ => True) ?hr ?hp (fun _ hk => hk) trivial (Below.refl _ _) (Nat.le_refl _) (by simp) ?_; (case hd => rfl); (case hg => rfl); (case hr => first | (go_simp; done) | (go_simp; rfl)); (case hp => exact (Reps.none _ _)); intro v492 w128 ho129 hb hg_ hnew_; clear hg_ hnew_; (first | rw [← Ny491.out] at ho129 | (simp only [Int.reduceToNat] at ho129; rw [← Ny491.out] at ho129)); replace HO_9 := aM (Kd.S_elder' (xS HO_9.out) (Kd.R_base ho129) hb); replace HO_13 := aM (Kd.S_elder' (xS HO_13.out) (Kd.R_base ho129) hb); have HO493 := aM (Kd.R_lower (Kd.R_new' (Kd.R_new' (Kd.R_new' (Kd.R_new' ho129 (Kd.R_lt (xR HO_4.out))) (Kd.R_lt (xR HO_439000.out))) (Kd.R_lt (xR HO_472000.out))) (Kd.R_lt (xR HO_478000.out))) (below_size (xG3 HB.out GE438.out GE471.out GE477.out))); replace HO_4 := aM (Kd.R_elder' (xR HO_4.out) (Kd.R_base ho129) hb); replace HO_439000 := aM (Kd.R_elder' (xR HO_439000.out) (Kd.R_base ho129) hb); replace HO_472000 := aM (Kd.R_elder' (xR HO_472000.out) (Kd.R_base ho129) hb); replace HO_478000 := aM (Kd.R_elder' (xR HO_478000.out) (Kd.R_base ho129) hb); replace BK438 := aM (bB (g := gb438) (o := .cells #[.slice Ao10 t431.length co10, .int .i64 t434] 26 (0, 0)) (xB BK438.out) hb); replace BK471 := aM (bB (g := gb471) (o := .cells #[.slice Ao65 t466.length co65, .int .i64 t469] 26 (0, 0)) (xB BK471.out) hb); replace BK477 := aM (bB (g := gb477) (o := .cells #[.slice Ao71 t472.length co71, .int .i64 t475] 26 (0, 0)) (xB BK477.out) hb); replace HB := aM (below_step (xG3 HB.out GE438.out GE471.out GE477.out) hb); clear hb ho129)); try go_wp2_with (first | ((with_reducible refine gate_dst (N := 255) rfl ?_); (try (refine gate_guard (by rfl) ?_; dsimp only)); refine Kd.R_lit (Kd.int .i64) _ 3 ?hg (N := 255) ?hd (xs := ([] : List Int)) (inner := []) (ok := fun _ => True) (okp := fun _ => True) ?hr ?hp (fun _ hk => hk) trivial (Below.refl _ _) (Nat.le_refl _) (by simp) ?_; (case hd => rfl); (case hg => rfl); (case hr => first | (go_simp; done) | (go_simp; rfl)); (case hp => exact (Reps.none _ _)); intro v492 w128 ho129 hb hg_ hnew_; clear hg_ hnew_; (first | rw [← Ny491.out] at ho129 | (simp only [Int.reduceToNat] at ho129; rw [← Ny491.out] at ho129)); replace HO_9 := aM (Kd.S_elder' (xS HO_9.out) (Kd.R_base ho129) hb); replace HO_13 := aM (Kd.S_elder' (xS HO_13.out) (Kd.R_base ho129) hb); have HO493 := aM (Kd.R_lower (Kd.R_new' (Kd.R_new' (Kd.R_new' (Kd.R_new' ho129 (Kd.R_lt (xR HO_4.out))) (Kd.R_lt (xR HO_439000.out))) (Kd.R_lt (xR HO_472000.out))) (Kd.R_lt (xR HO_478000.out))) (below_size (xG3 HB.out GE438.out GE471.out GE477.out))); replace HO_4 := aM (Kd.R_elder' (xR HO_4.out) (Kd.R_base ho129) hb); replace HO_439000 := aM (Kd.R_elder' (xR HO_439000.out) (Kd.R_base ho129) hb); replace HO_472000 := aM (Kd.R_elder' (xR HO_472000.out) (Kd.R_base ho129) hb); replace HO_478000 := aM (Kd.R_elder' (xR HO_478000.out) (Kd.R_base ho129) hb); replace BK438 := aM (bB (g := gb438) (o := .cells #[.slice Ao10 t431.length co10, .int .i64 t434] 26 (0, 0)) (xB BK438.out) hb); replace BK471 := aM (bB (g := gb471) (o := .cells #[.slice Ao65 t466.length co65, .int .i64 t469] 26 (0, 0)) (xB BK471.out) hb); replace BK477 := aM (bB (g := gb477) (o := .cells #[.slice Ao71 t472.length co71, .int .i64 t475] 26 (0, 0)) (xB BK477.out) hb); replace HB := aM (below_step (xG3 HB.out GE438.out GE471.out GE477.out) hb); clear hb ho129)))
             go_loopg [37, 38] kj111 (fun kq v37 v38 w' => ∃ (x37_9 : List Int) (x38_9 : Int), v38 = .int .i64 x38_9 ∧ Aside0 (laws_FnVotes.l0 kq t435 t439 t443 t453 x37_9 x38_9 t431 t434 t466 t469 = some r) ∧ Aside0 (kq ≤ kj111) ∧ Aside0 (Kd.R (Kd.int .i64) 3 w' w.heap.size (fun k_ => some k_ ≠ (v37 : Value).ownBlock ∧ some k_ ≠ ((.slice Ao10 t431.length co10) : Value).ownBlock ∧ some k_ ≠ ((.slice Ao65 t466.length co65) : Value).ownBlock ∧ some k_ ≠ ((.slice Ao71 t472.length co71) : Value).ownBlock) (.slice Ao12 t435.length co12) t435) ∧ Aside0 (Kd.S (Kd.slice 3 (Kd.int .i64)) 24 w' w.heap.size (fun k_ => some k_ ≠ ((.slice Ao12 t435.length co12) : Value).ownBlock ∧ some k_ ≠ (v454 : Value).ownBlock ∧ some k_ ≠ (v37 : Value).ownBlock ∧ some k_ ≠ ((.slice Ao10 t431.length co10) : Value).ownBlock ∧ some k_ ≠ ((.slice Ao65 t466.length co65) : Value).ownBlock ∧ some k_ ≠ ((.slice Ao71 t472.length co71) : Value).ownBlock) v444 t443) ∧ Aside0 (Kd.S (Kd.slice 3 (Kd.int .i64)) 24 w' w.heap.size (fun k_ => some k_ ≠ ((.slice Ao12 t435.length co12) : Value).ownBlock ∧ some k_ ≠ (v444 : Value).ownBlock ∧ some k_ ≠ (v37 : Value).ownBlock ∧ some k_ ≠ ((.slice Ao10 t431.length co10) : Value).ownBlock ∧ some k_ ≠ ((.slice Ao65 t466.length co65) : Value).ownBlock ∧ some k_ ≠ ((.slice Ao71 t472.length co71) : Value).ownBlock) v454 t453) ∧ Aside0 (Kd.R (Kd.int .i64) 3 w' w.heap.size (fun k_ => some k_ ≠ ((.slice Ao12 t435.length co12) : Value).ownBlock ∧ some k_ ≠ ((.slice Ao10 t431.length co10) : Value).ownBlock ∧ some k_ ≠ ((.slice Ao65 t466.length co65) : Value).ownBlock ∧ some k_ ≠ ((.slice Ao71 t472.length co71) : Value).ownBlock) v37 x37_9) ∧ Aside0 (Kd.R (Kd.int .i64) 3 w' w.heap.size (fun k_ => some k_ ≠ ((.slice Ao12 t435.length co12) : Value).ownBlock ∧ some k_ ≠ (v37 : Value).ownBlock ∧ some k_ ≠ ((.slice Ao65 t466.length co65) : Value).ownBlock ∧ some k_ ≠ ((.slice Ao71 t472.length co71) : Value).ownBlock) (.slice Ao10 t431.length co10) t431) ∧ Aside0 (Kd.R (Kd.int .i64) 3 w' w.heap.size (fun k_ => some k_ ≠ ((.slice Ao12 t435.length co12) : Value).ownBlock ∧ some k_ ≠ (v37 : Value).ownBlock ∧ some k_ ≠ ((.slice Ao10 t431.length co10) : Value).ownBlock ∧ some k_ ≠ ((.slice Ao71 t472.length co71) : Value).ownBlock) (.slice Ao65 t466.length co65) t466) ∧ Aside0 (Kd.R (Kd.int .i64) 3 w' w.heap.size (fun k_ => some k_ ≠ ((.slice Ao12 t435.length co12) : Value).ownBlock ∧ some k_ ≠ (v37 : Value).ownBlock ∧ some k_ ≠ ((.slice Ao10 t431.length co10) : Value).ownBlock ∧ some k_ ≠ ((.slice Ao65 t466.length co65) : Value).ownBlock) (.slice Ao71 t472.length co71) t472) ∧ Aside0 (w'.heap[gb438]? = some (.cells #[(.slice Ao10 t431.length co10), .int .i64 t434] 26 (0, 0))) ∧ Aside0 (w'.heap[gb471]? = some (.cells #[(.slice Ao65 t466.length co65), .int .i64 t469] 26 (0, 0))) ∧ Aside0 (w'.heap[gb477]? = some (.cells #[(.slice Ao71 t472.length co71), .int .i64 t475] 26 (0, 0))) ∧ Aside0 (Below w.heap.size w w'))
             case atStart => exact ⟨(y491), (0), (by first | rfl | (simp; done) | (simp [*]; done)), H', ⟨Nat.le_refl _⟩, ⟨by (with_reducible repeat (first | apply rA | apply rN | apply rD)); exact rM HO_4.out (fun _ hk => ⟨hk.2, ⟨hk.1.1, ⟨hk.1.2.1, hk.1.2.2⟩⟩⟩)⟩, ⟨by (with_reducible repeat (first | apply Kd.S_alloc | apply Kd.S_drewN | apply Kd.S_drew)); exact Kd.S_mono HO_9.out (fun _ hk => ⟨hk.1.1, ⟨hk.1.2.1, ⟨hk.2, ⟨hk.1.2.2.1, ⟨hk.1.2.2.2.1, hk.1.2.2.2.2⟩⟩⟩⟩⟩)⟩, ⟨by (with_reducible repeat (first | apply Kd.S_alloc | apply Kd.S_drewN | apply Kd.S_drew)); exact Kd.S_mono HO_13.out (fun _ hk => ⟨hk.1.1, ⟨hk.1.2.1, ⟨hk.2, ⟨hk.1.2.2.1, ⟨hk.1.2.2.2.1, hk.1.2.2.2.2⟩⟩⟩⟩⟩)⟩, ⟨by (with_reducible repeat (first | apply rA | apply rN | apply rD)); exact rM HO493.out (fun _ hk => ⟨hk.1.1.1.2, ⟨hk.1.1.2, ⟨hk.1.2, hk.2⟩⟩⟩)⟩, ⟨by (with_reducible repeat (first | apply rA | apply rN | apply rD)); exact rM HO_439000.out (fun _ hk => ⟨hk.1.1, ⟨hk.2, ⟨hk.1.2.1, hk.1.2.2⟩⟩⟩)⟩, ⟨by (with_reducible repeat (first | apply rA | apply rN | apply rD)); exact rM HO_472000.out (fun _ hk => ⟨hk.1.1, ⟨hk.2, ⟨hk.1.2.1, hk.1.2.2⟩⟩⟩)⟩, ⟨by (with_reducible repeat (first | apply rA | apply rN | apply rD)); exact rM HO_478000.out (fun _ hk => ⟨hk.1.1, ⟨hk.2, ⟨hk.1.2.1, hk.1.2.2⟩⟩⟩)⟩, ⟨xB BK438.out⟩, ⟨xB BK471.out⟩, ⟨xB BK477.out⟩, ⟨xG3 HB.out GE438.out GE471.out GE477.out⟩⟩
             case round =>
              as_aux_lemma =>
               clear H'
               try clear c126; try clear c127
               obtain ⟨x37_9, x38_9, rfl, HA, HK9, HO_4, HO_9, HO_13, HO_37, HO_439000, HO_472000, HO_478000, BK438, BK471, BK477, HB⟩ := hrel
               cases gk with
               | zero => exact absurd HA.out (by simp [laws_FnVotes.l0])
               | succ k9 =>
                have H := HA.out
                clear HA
                simp only [laws_FnVotes.l0] at H
                by_cases c130 : x38_9 < (t431.length : Int)
                ·
                 rw [if_pos c130] at H
                 have c130b0 : decide (x38_9 < (t431.length : Int)) = true := decide_eq_true c130
                 clear c130
                 replace H := oB.mp H
                 obtain ⟨t494, A1310, H⟩ := H
                 replace H : (if t494 = true then (laws_FnVotes.l0 k9 t435 t439 t443 t453 x37_9 (wrap64 (x38_9 + 1)) t431 t434 t466 t469) else (if x37_9.length < 17592186044416 then (laws_FnVotes.l0 k9 t435 t439 t443 t453 (x37_9 ++ [x38_9]) (wrap64 (x38_9 + 1)) t431 t434 t466 t469) else (none))) = some r := H
                 have A131 := aM A1310
                 clear A1310
                 by_cases c132 : t494 = true
                 ·
                  subst c132
                  have H1 : (laws_FnVotes.l0 k9 t435 t439 t443 t453 x37_9 (wrap64 (x38_9 + 1)) t431 t434 t466 t469) = some r := by rw [if_pos rfl] at H; exact H
                  clear H
                  have H := H1
                  clear H1
                  have H' := aM H
                  clear H
                  have hnb133 := NB438_471.out
                  have hnc133 := NB471_438.out
                  have hnb134 := NB438_477.out
                  have hnc134 := NB477_438.out
                  have hcz135_0 : wr.cell? ⟨gb438, 0, none⟩ = some (.slice Ao10 t431.length co10) := (bC BK438.out 0).trans rfl
                  have hcz135_1 : wr.cell? ⟨gb438, 1, none⟩ = some (.int .i64 t434) := (bC BK438.out 1).trans rfl
                  have hfz135_0 := bF BK438.out 0
                  have hfz135_1 := bF BK438.out 1
                  go_wp2_with (first | (go_at_call 23; (with_reducible refine (laws_rHas.calls k9 _ _ t435 x38_9 true _ ?side1 ?side2 A131.out).mono ?_); (case side1 => exact xC (Kd.R_reads' HO_4.out).2.2); (case side2 => exact (Kd.R_reads' HO_4.out).2.1); rintro e w' ⟨rfl, ⟨nd, rfl⟩⟩; (try first | exact ⟨rfl, _, World.drewN_drewN _ _ _⟩ | exact ⟨rfl, _, Eq.trans (World.drewN_drewN _ _ _) (congrArg (World.drewN _) (Nat.add_assoc _ _ _))⟩)))
                  repeat (go_quiet (first | (go_at_call 23; (with_reducible refine (laws_rHas.calls k9 _ _ t435 x38_9 true _ ?side1 ?side2 A131.out).mono ?_); (case side1 => exact xC (Kd.R_reads' HO_4.out).2.2); (case side2 => exact (Kd.R_reads' HO_4.out).2.1); rintro e w' ⟨rfl, ⟨nd, rfl⟩⟩; (try first | exact ⟨rfl, _, World.drewN_drewN _ _ _⟩ | exact ⟨rfl, _, Eq.trans (World.drewN_drewN _ _ _) (congrArg (World.drewN _) (Nat.add_assoc _ _ _))⟩))); try go_wp2_with (first | (go_at_call 23; (with_reducible refine (laws_rHas.calls k9 _ _ t435 x38_9 true _ ?side1 ?side2 A131.out).mono ?_); (case side1 => exact xC (Kd.R_reads' HO_4.out).2.2); (case side2 => exact (Kd.R_reads' HO_4.out).2.1); rintro e w' ⟨rfl, ⟨nd, rfl⟩⟩; (try first | exact ⟨rfl, _, World.drewN_drewN _ _ _⟩ | exact ⟨rfl, _, Eq.trans (World.drewN_drewN _ _ _) (congrArg (World.drewN _) (Nat.add_assoc _ _ _))⟩))))
                  go_roundg k9
                  case measure => have := HJ6.out; have := HJ19.out; have := HJ37.out; have := HJ50.out; have := HJ60.out; have := HJ86.out; have := HJ98.out; have := HJ111.out; have := HK9.out; omega
                  case rel => exact ⟨(x37_9), (wrap64 (x38_9 + 1)), (by first | rfl | (simp; done) | (simp [*]; done)), H', ⟨by have := HJ6.out; have := HJ19.out; have := HJ37.out; have := HJ50.out; have := HJ60.out; have := HJ86.out; have := HJ98.out; have := HJ111.out; have := HK9.out; omega⟩, ⟨xR HO_4.out⟩, ⟨xS HO_9.out⟩, ⟨xS HO_13.out⟩, ⟨xR HO_37.out⟩, ⟨xR HO_439000.out⟩, ⟨xR HO_472000.out⟩, ⟨xR HO_478000.out⟩, ⟨xB BK438.out⟩, ⟨xB BK471.out⟩, ⟨xB BK477.out⟩, ⟨xG3 HB.out GE438.out GE471.out GE477.out⟩⟩
                 ·
                  replace c132 := Bool.eq_false_iff.mpr c132
                  subst c132
                  have H1 : (if x37_9.length < 17592186044416 then (laws_FnVotes.l0 k9 t435 t439 t443 t453 (x37_9 ++ [x38_9]) (wrap64 (x38_9 + 1)) t431 t434 t466 t469) else (none)) = some r := by rw [if_neg (show ¬ (false = true) by decide)] at H; exact H
                  clear H
                  have H := H1
                  clear H1
                  by_cases c136 : x37_9.length < 17592186044416
                  ·
                   rw [if_pos c136] at H
                   have LMc136 := aM c136
                   clear c136
                   obtain ⟨y495, hy495⟩ : ∃ y_ : List Int, y_ = (x37_9 ++ [x38_9]) := ⟨_, rfl⟩
                   replace H : (laws_FnVotes.l0 k9 t435 t439 t443 t453 y495 (wrap64 (x38_9 + 1)) t431 t434 t466 t469) = some r := by first | (rw [hy495]; with_reducible exact H) | (have H2_ := (Option.bind_some _ _).symm.trans H; rw [hy495]; with_reducible exact H2_) | (have H2_ := (Option.bind_some _ _).symm.trans H; with_reducible exact H2_) | with_reducible exact H | (rw [hy495]; exact H) | exact H
                   have Ny495 := aM hy495
                   clear hy495
                   have H' := aM H
                   clear H
                   have hnb137 := NB438_471.out
                   have hnc137 := NB471_438.out
                   have hnb138 := NB438_477.out
                   have hnc138 := NB477_438.out
                   have hcz139_0 : wr.cell? ⟨gb438, 0, none⟩ = some (.slice Ao10 t431.length co10) := (bC BK438.out 0).trans rfl
                   have hcz139_1 : wr.cell? ⟨gb438, 1, none⟩ = some (.int .i64 t434) := (bC BK438.out 1).trans rfl
                   have hfz139_0 := bF BK438.out 0
                   have hfz139_1 := bF BK438.out 1
                   go_wp2_with (first | (go_at_call 23; (with_reducible refine (laws_rHas.calls k9 _ _ t435 x38_9 false _ ?side1 ?side2 A131.out).mono ?_); (case side1 => exact xC (Kd.R_reads' HO_4.out).2.2); (case side2 => exact (Kd.R_reads' HO_4.out).2.1); rintro e w' ⟨rfl, ⟨nd, rfl⟩⟩; (try first | exact ⟨rfl, _, World.drewN_drewN _ _ _⟩ | exact ⟨rfl, _, Eq.trans (World.drewN_drewN _ _ _) (congrArg (World.drewN _) (Nat.add_assoc _ _ _))⟩)) | ((with_reducible refine gate_builtin (b := .append) (xs := #[.tmp 267, .tmp 269]) rfl ?_); (try (refine gate_guard (by rfl) ?_; dsimp only)); at_builtin; refine Kd.R_append (Kd.int .i64) (w0 := w) w.heap.size rfl (.tmp 267) (.tmp 269) 24 3 (.int .i64 0) 8 rfl Tryd.underlying24 info3 rfl (by decide) (by omega) u37 x37_9 x38_9 [.int .i64 x38_9] (fun k_ => some k_ ≠ (.slice Ao12 t435.length co12 : Value).ownBlock ∧ some k_ ≠ (.slice Ao10 t431.length co10 : Value).ownBlock ∧ some k_ ≠ (.slice Ao65 t466.length co65 : Value).ownBlock ∧ some k_ ≠ (.slice Ao71 t472.length co71 : Value).ownBlock) (fun _ => False) rfl rfl ?aP (fun _ hk => hk.elim) ?aF ?aO ?aB ?aS ?aL ?_; (case aP => exact rfl); (case aB => exact (xG3 HB.out GE438.out GE471.out GE477.out)); (case aF => exact (fun k_ hk => ⟨Kd.fresh' (Kd.R_lt (xR HO_4.out)) k_ hk, Kd.fresh' (Kd.R_lt (xR HO_439000.out)) k_ hk, Kd.fresh' (Kd.R_lt (xR HO_472000.out)) k_ hk, Kd.fresh' (Kd.R_lt (xR HO_478000.out)) k_ hk⟩)); (case aO => exact (xR HO_37.out)); (case aS => exact (below_size (xG3 HB.out GE438.out GE471.out GE477.out))); (case aL => have := LMc136.out; omega); intro v496 w140 ho hb hg hat; rw [← Ny495.out] at ho; replace HO_4 := aM (Kd.R_after (ok := (fun k_ => some k_ ≠ (.slice Ao10 t431.length co10 : Value).ownBlock ∧ some k_ ≠ (.slice Ao65 t466.length co65 : Value).ownBlock ∧ some k_ ≠ (.slice Ao71 t472.length co71 : Value).ownBlock)) (by (with_reducible repeat (first | apply rA | apply rN | apply rD)); exact rM HO_4.out (fun _ hk => ⟨⟨hk.2.1, ⟨hk.2.2.1, hk.2.2.2⟩⟩, hk.1⟩)) hg hat); replace HO_9 := aM (Kd.S_after (ok := (fun k_ => some k_ ≠ (.slice Ao12 t435.length co12 : Value).ownBlock ∧ some k_ ≠ (v454 : Value).ownBlock ∧ some k_ ≠ (.slice Ao10 t431.length co10 : Value).ownBlock ∧ some k_ ≠ (.slice Ao65 t466.length co65 : Value).ownBlock ∧ some k_ ≠ (.slice Ao71 t472.length co71 : Value).ownBlock)) (by (with_reducible repeat (first | apply Kd.S_alloc | apply Kd.S_drewN | apply Kd.S_drew)); exact Kd.S_mono HO_9.out (fun _ hk => ⟨⟨hk.1, ⟨hk.2.1, ⟨hk.2.2.2.1, ⟨hk.2.2.2.2.1, hk.2.2.2.2.2⟩⟩⟩⟩, hk.2.2.1⟩)) hg hat); replace HO_13 := aM (Kd.S_after (ok := (fun k_ => some k_ ≠ (.slice Ao12 t435.length co12 : Value).ownBlock ∧ some k_ ≠ (v444 : Value).ownBlock ∧ some k_ ≠ (.slice Ao10 t431.length co10 : Value).ownBlock ∧ some k_ ≠ (.slice Ao65 t466.length co65 : Value).ownBlock ∧ some k_ ≠ (.slice Ao71 t472.length co71 : Value).ownBlock)) (by (with_reducible repeat (first | apply Kd.S_alloc | apply Kd.S_drewN | apply Kd.S_drew)); exact Kd.S_mono HO_13.out (fun _ hk => ⟨⟨hk.1, ⟨hk.2.1, ⟨hk.2.2.2.1, ⟨hk.2.2.2.2.1, hk.2.2.2.2.2⟩⟩⟩⟩, hk.2.2.1⟩)) hg hat); replace HO_439000 := aM (Kd.R_after (ok := (fun k_ => some k_ ≠ (.slice Ao12 t435.length co12 : Value).ownBlock ∧ some k_ ≠ (.slice Ao65 t466.length co65 : Value).ownBlock ∧ some k_ ≠ (.slice Ao71 t472.length co71 : Value).ownBlock)) (by (with_reducible repeat (first | apply rA | apply rN | apply rD)); exact rM HO_439000.out (fun _ hk => ⟨⟨hk.1, ⟨hk.2.2.1, hk.2.2.2⟩⟩, hk.2.1⟩)) hg hat); replace HO_472000 := aM (Kd.R_after (ok := (fun k_ => some k_ ≠ (.slice Ao12 t435.length co12 : Value).ownBlock ∧ some k_ ≠ (.slice Ao10 t431.length co10 : Value).ownBlock ∧ some k_ ≠ (.slice Ao71 t472.length co71 : Value).ownBlock)) (by (with_reducible repeat (first | apply rA | apply rN | apply rD)); exact rM HO_472000.out (fun _ hk => ⟨⟨hk.1, ⟨hk.2.2.1, hk.2.2.2⟩⟩, hk.2.1⟩)) hg hat); replace HO_478000 := aM (Kd.R_after (ok := (fun k_ => some k_ ≠ (.slice Ao12 t435.length co12 : Value).ownBlock ∧ some k_ ≠ (.slice Ao10 t431.length co10 : Value).ownBlock ∧ some k_ ≠ (.slice Ao65 t466.length co65 : Value).ownBlock)) (by (with_reducible repeat (first | apply rA | apply rN | apply rD)); exact rM HO_478000.out (fun _ hk => ⟨⟨hk.1, ⟨hk.2.2.1, hk.2.2.2⟩⟩, hk.2.1⟩)) hg hat); replace BK438 := aM (blk_grown (g := gb438) (o := .cells #[.slice Ao10 t431.length co10, .int .i64 t434] 26 (0, 0)) (xB BK438.out) hg (Kd.R_ne HO_37.out BK438.out (by decide))); replace BK471 := aM (blk_grown (g := gb471) (o := .cells #[.slice Ao65 t466.length co65, .int .i64 t469] 26 (0, 0)) (xB BK471.out) hg (Kd.R_ne HO_37.out BK471.out (by decide))); replace BK477 := aM (blk_grown (g := gb477) (o := .cells #[.slice Ao71 t472.length co71, .int .i64 t475] 26 (0, 0)) (xB BK477.out) hg (Kd.R_ne HO_37.out BK477.out (by decide))); replace HB := aM (hb); have HO497 := aM (ho); clear HO_37; clear ho hb hg hat))
                   repeat (go_quiet (first | (go_at_call 23; (with_reducible refine (laws_rHas.calls k9 _ _ t435 x38_9 false _ ?side1 ?side2 A131.out).mono ?_); (case side1 => exact xC (Kd.R_reads' HO_4.out).2.2); (case side2 => exact (Kd.R_reads' HO_4.out).2.1); rintro e w' ⟨rfl, ⟨nd, rfl⟩⟩; (try first | exact ⟨rfl, _, World.drewN_drewN _ _ _⟩ | exact ⟨rfl, _, Eq.trans (World.drewN_drewN _ _ _) (congrArg (World.drewN _) (Nat.add_assoc _ _ _))⟩)) | ((with_reducible refine gate_builtin (b := .append) (xs := #[.tmp 267, .tmp 269]) rfl ?_); (try (refine gate_guard (by rfl) ?_; dsimp only)); at_builtin; refine Kd.R_append (Kd.int .i64) (w0 := w) w.heap.size rfl (.tmp 267) (.tmp 269) 24 3 (.int .i64 0) 8 rfl Tryd.underlying24 info3 rfl (by decide) (by omega) u37 x37_9 x38_9 [.int .i64 x38_9] (fun k_ => some k_ ≠ (.slice Ao12 t435.length co12 : Value).ownBlock ∧ some k_ ≠ (.slice Ao10 t431.length co10 : Value).ownBlock ∧ some k_ ≠ (.slice Ao65 t466.length co65 : Value).ownBlock ∧ some k_ ≠ (.slice Ao71 t472.length co71 : Value).ownBlock) (fun _ => False) rfl rfl ?aP (fun _ hk => hk.elim) ?aF ?aO ?aB ?aS ?aL ?_; (case aP => exact rfl); (case aB => exact (xG3 HB.out GE438.out GE471.out GE477.out)); (case aF => exact (fun k_ hk => ⟨Kd.fresh' (Kd.R_lt (xR HO_4.out)) k_ hk, Kd.fresh' (Kd.R_lt (xR HO_439000.out)) k_ hk, Kd.fresh' (Kd.R_lt (xR HO_472000.out)) k_ hk, Kd.fresh' (Kd.R_lt (xR HO_478000.out)) k_ hk⟩)); (case aO => exact (xR HO_37.out)); (case aS => exact (below_size (xG3 HB.out GE438.out GE471.out GE477.out))); (case aL => have := LMc136.out; omega); intro v496 w140 ho hb hg hat; rw [← Ny495.out] at ho; replace HO_4 := aM (Kd.R_after (ok := (fun k_ => some k_ ≠ (.slice Ao10 t431.length co10 : Value).ownBlock ∧ some k_ ≠ (.slice Ao65 t466.length co65 : Value).ownBlock ∧ some k_ ≠ (.slice Ao71 t472.length co71 : Value).ownBlock)) (by (with_reducible repeat (first | apply rA | apply rN | apply rD)); exact rM HO_4.out (fun _ hk => ⟨⟨hk.2.1, ⟨hk.2.2.1, hk.2.2.2⟩⟩, hk.1⟩)) hg hat); replace HO_9 := aM (Kd.S_after (ok := (fun k_ => some k_ ≠ (.slice Ao12 t435.length co12 : Value).ownBlock ∧ some k_ ≠ (v454 : Value).ownBlock ∧ some k_ ≠ (.slice Ao10 t431.length co10 : Value).ownBlock ∧ some k_ ≠ (.slice Ao65 t466.length co65 : Value).ownBlock ∧ some k_ ≠ (.slice Ao71 t472.length co71 : Value).ownBlock)) (by (with_reducible repeat (first | apply Kd.S_alloc | apply Kd.S_drewN | apply Kd.S_drew)); exact Kd.S_mono HO_9.out (fun _ hk => ⟨⟨hk.1, ⟨hk.2.1, ⟨hk.2.2.2.1, ⟨hk.2.2.2.2.1, hk.2.2.2.2.2⟩⟩⟩⟩, hk.2.2.1⟩)) hg hat); replace HO_13 := aM (Kd.S_after (ok := (fun k_ => some k_ ≠ (.slice Ao12 t435.length co12 : Value).ownBlock ∧ some k_ ≠ (v444 : Value).ownBlock ∧ some k_ ≠ (.slice Ao10 t431.length co10 : Value).ownBlock ∧ some k_ ≠ (.slice Ao65 t466.length co65 : Value).ownBlock ∧ some k_ ≠ (.slice Ao71 t472.length co71 : Value).ownBlock)) (by (with_reducible repeat (first | apply Kd.S_alloc | apply Kd.S_drewN | apply Kd.S_drew)); exact Kd.S_mono HO_13.out (fun _ hk => ⟨⟨hk.1, ⟨hk.2.1, ⟨hk.2.2.2.1, ⟨hk.2.2.2.2.1, hk.2.2.2.2.2⟩⟩⟩⟩, hk.2.2.1⟩)) hg hat); replace HO_439000 := aM (Kd.R_after (ok := (fun k_ => some k_ ≠ (.slice Ao12 t435.length co12 : Value).ownBlock ∧ some k_ ≠ (.slice Ao65 t466.length co65 : Value).ownBlock ∧ some k_ ≠ (.slice Ao71 t472.length co71 : Value).ownBlock)) (by (with_reducible repeat (first | apply rA | apply rN | apply rD)); exact rM HO_439000.out (fun _ hk => ⟨⟨hk.1, ⟨hk.2.2.1, hk.2.2.2⟩⟩, hk.2.1⟩)) hg hat); replace HO_472000 := aM (Kd.R_after (ok := (fun k_ => some k_ ≠ (.slice Ao12 t435.length co12 : Value).ownBlock ∧ some k_ ≠ (.slice Ao10 t431.length co10 : Value).ownBlock ∧ some k_ ≠ (.slice Ao71 t472.length co71 : Value).ownBlock)) (by (with_reducible repeat (first | apply rA | apply rN | apply rD)); exact rM HO_472000.out (fun _ hk => ⟨⟨hk.1, ⟨hk.2.2.1, hk.2.2.2⟩⟩, hk.2.1⟩)) hg hat); replace HO_478000 := aM (Kd.R_after (ok := (fun k_ => some k_ ≠ (.slice Ao12 t435.length co12 : Value).ownBlock ∧ some k_ ≠ (.slice Ao10 t431.length co10 : Value).ownBlock ∧ some k_ ≠ (.slice Ao65 t466.length co65 : Value).ownBlock)) (by (with_reducible repeat (first | apply rA | apply rN | apply rD)); exact rM HO_478000.out (fun _ hk => ⟨⟨hk.1, ⟨hk.2.2.1, hk.2.2.2⟩⟩, hk.2.1⟩)) hg hat); replace BK438 := aM (blk_grown (g := gb438) (o := .cells #[.slice Ao10 t431.length co10, .int .i64 t434] 26 (0, 0)) (xB BK438.out) hg (Kd.R_ne HO_37.out BK438.out (by decide))); replace BK471 := aM (blk_grown (g := gb471) (o := .cells #[.slice Ao65 t466.length co65, .int .i64 t469] 26 (0, 0)) (xB BK471.out) hg (Kd.R_ne HO_37.out BK471.out (by decide))); replace BK477 := aM (blk_grown (g := gb477) (o := .cells #[.slice Ao71 t472.length co71, .int .i64 t475] 26 (0, 0)) (xB BK477.out) hg (Kd.R_ne HO_37.out BK477.out (by decide))); replace HB := aM (hb); have HO497 := aM (ho); clear HO_37; clear ho hb hg hat)); try go_wp2_with (first | (go_at_call 23; (with_reducible refine (laws_rHas.calls k9 _ _ t435 x38_9 false _ ?side1 ?side2 A131.out).mono ?_); (case side1 => exact xC (Kd.R_reads' HO_4.out).2.2); (case side2 => exact (Kd.R_reads' HO_4.out).2.1); rintro e w' ⟨rfl, ⟨nd, rfl⟩⟩; (try first | exact ⟨rfl, _, World.drewN_drewN _ _ _⟩ | exact ⟨rfl, _, Eq.trans (World.drewN_drewN _ _ _) (congrArg (World.drewN _) (Nat.add_assoc _ _ _))⟩)) | ((with_reducible refine gate_builtin (b := .append) (xs := #[.tmp 267, .tmp 269]) rfl ?_); (try (refine gate_guard (by rfl) ?_; dsimp only)); at_builtin; refine Kd.R_append (Kd.int .i64) (w0 := w) w.heap.size rfl (.tmp 267) (.tmp 269) 24 3 (.int .i64 0) 8 rfl Tryd.underlying24 info3 rfl (by decide) (by omega) u37 x37_9 x38_9 [.int .i64 x38_9] (fun k_ => some k_ ≠ (.slice Ao12 t435.length co12 : Value).ownBlock ∧ some k_ ≠ (.slice Ao10 t431.length co10 : Value).ownBlock ∧ some k_ ≠ (.slice Ao65 t466.length co65 : Value).ownBlock ∧ some k_ ≠ (.slice Ao71 t472.length co71 : Value).ownBlock) (fun _ => False) rfl rfl ?aP (fun _ hk => hk.elim) ?aF ?aO ?aB ?aS ?aL ?_; (case aP => exact rfl); (case aB => exact (xG3 HB.out GE438.out GE471.out GE477.out)); (case aF => exact (fun k_ hk => ⟨Kd.fresh' (Kd.R_lt (xR HO_4.out)) k_ hk, Kd.fresh' (Kd.R_lt (xR HO_439000.out)) k_ hk, Kd.fresh' (Kd.R_lt (xR HO_472000.out)) k_ hk, Kd.fresh' (Kd.R_lt (xR HO_478000.out)) k_ hk⟩)); (case aO => exact (xR HO_37.out)); (case aS => exact (below_size (xG3 HB.out GE438.out GE471.out GE477.out))); (case aL => have := LMc136.out; omega); intro v496 w140 ho hb hg hat; rw [← Ny495.out] at ho; replace HO_4 := aM (Kd.R_after (ok := (fun k_ => some k_ ≠ (.slice Ao10 t431.length co10 : Value).ownBlock ∧ some k_ ≠ (.slice Ao65 t466.length co65 : Value).ownBlock ∧ some k_ ≠ (.slice Ao71 t472.length co71 : Value).ownBlock)) (by (with_reducible repeat (first | apply rA | apply rN | apply rD)); exact rM HO_4.out (fun _ hk => ⟨⟨hk.2.1, ⟨hk.2.2.1, hk.2.2.2⟩⟩, hk.1⟩)) hg hat); replace HO_9 := aM (Kd.S_after (ok := (fun k_ => some k_ ≠ (.slice Ao12 t435.length co12 : Value).ownBlock ∧ some k_ ≠ (v454 : Value).ownBlock ∧ some k_ ≠ (.slice Ao10 t431.length co10 : Value).ownBlock ∧ some k_ ≠ (.slice Ao65 t466.length co65 : Value).ownBlock ∧ some k_ ≠ (.slice Ao71 t472.length co71 : Value).ownBlock)) (by (with_reducible repeat (first | apply Kd.S_alloc | apply Kd.S_drewN | apply Kd.S_drew)); exact Kd.S_mono HO_9.out (fun _ hk => ⟨⟨hk.1, ⟨hk.2.1, ⟨hk.2.2.2.1, ⟨hk.2.2.2.2.1, hk.2.2.2.2.2⟩⟩⟩⟩, hk.2.2.1⟩)) hg hat); replace HO_13 := aM (Kd.S_after (ok := (fun k_ => some k_ ≠ (.slice Ao12 t435.length co12 : Value).ownBlock ∧ some k_ ≠ (v444 : Value).ownBlock ∧ some k_ ≠ (.slice Ao10 t431.length co10 : Value).ownBlock ∧ some k_ ≠ (.slice Ao65 t466.length co65 : Value).ownBlock ∧ some k_ ≠ (.slice Ao71 t472.length co71 : Value).ownBlock)) (by (with_reducible repeat (first | apply Kd.S_alloc | apply Kd.S_drewN | apply Kd.S_drew)); exact Kd.S_mono HO_13.out (fun _ hk => ⟨⟨hk.1, ⟨hk.2.1, ⟨hk.2.2.2.1, ⟨hk.2.2.2.2.1, hk.2.2.2.2.2⟩⟩⟩⟩, hk.2.2.1⟩)) hg hat); replace HO_439000 := aM (Kd.R_after (ok := (fun k_ => some k_ ≠ (.slice Ao12 t435.length co12 : Value).ownBlock ∧ some k_ ≠ (.slice Ao65 t466.length co65 : Value).ownBlock ∧ some k_ ≠ (.slice Ao71 t472.length co71 : Value).ownBlock)) (by (with_reducible repeat (first | apply rA | apply rN | apply rD)); exact rM HO_439000.out (fun _ hk => ⟨⟨hk.1, ⟨hk.2.2.1, hk.2.2.2⟩⟩, hk.2.1⟩)) hg hat); replace HO_472000 := aM (Kd.R_after (ok := (fun k_ => some k_ ≠ (.slice Ao12 t435.length co12 : Value).ownBlock ∧ some k_ ≠ (.slice Ao10 t431.length co10 : Value).ownBlock ∧ some k_ ≠ (.slice Ao71 t472.length co71 : Value).ownBlock)) (by (with_reducible repeat (first | apply rA | apply rN | apply rD)); exact rM HO_472000.out (fun _ hk => ⟨⟨hk.1, ⟨hk.2.2.1, hk.2.2.2⟩⟩, hk.2.1⟩)) hg hat); replace HO_478000 := aM (Kd.R_after (ok := (fun k_ => some k_ ≠ (.slice Ao12 t435.length co12 : Value).ownBlock ∧ some k_ ≠ (.slice Ao10 t431.length co10 : Value).ownBlock ∧ some k_ ≠ (.slice Ao65 t466.length co65 : Value).ownBlock)) (by (with_reducible repeat (first | apply rA | apply rN | apply rD)); exact rM HO_478000.out (fun _ hk => ⟨⟨hk.1, ⟨hk.2.2.1, hk.2.2.2⟩⟩, hk.2.1⟩)) hg hat); replace BK438 := aM (blk_grown (g := gb438) (o := .cells #[.slice Ao10 t431.length co10, .int .i64 t434] 26 (0, 0)) (xB BK438.out) hg (Kd.R_ne HO_37.out BK438.out (by decide))); replace BK471 := aM (blk_grown (g := gb471) (o := .cells #[.slice Ao65 t466.length co65, .int .i64 t469] 26 (0, 0)) (xB BK471.out) hg (Kd.R_ne HO_37.out BK471.out (by decide))); replace BK477 := aM (blk_grown (g := gb477) (o := .cells #[.slice Ao71 t472.length co71, .int .i64 t475] 26 (0, 0)) (xB BK477.out) hg (Kd.R_ne HO_37.out BK477.out (by decide))); replace HB := aM (hb); have HO497 := aM (ho); clear HO_37; clear ho hb hg hat)))
                   go_roundg k9
                   case measure => have := HJ6.out; have := HJ19.out; have := HJ37.out; have := HJ50.out; have := HJ60.out; have := HJ86.out; have := HJ98.out; have := HJ111.out; have := HK9.out; omega
                   case rel => exact ⟨(y495), (wrap64 (x38_9 + 1)), (by first | rfl | (simp; done) | (simp [*]; done)), H', ⟨by have := HJ6.out; have := HJ19.out; have := HJ37.out; have := HJ50.out; have := HJ60.out; have := HJ86.out; have := HJ98.out; have := HJ111.out; have := HK9.out; omega⟩, ⟨by (with_reducible repeat (first | apply rA | apply rN | apply rD)); exact rM HO_4.out (fun _ hk => ⟨hk.2, ⟨hk.1.1, ⟨hk.1.2.1, hk.1.2.2⟩⟩⟩)⟩, ⟨by (with_reducible repeat (first | apply Kd.S_alloc | apply Kd.S_drewN | apply Kd.S_drew)); exact Kd.S_mono HO_9.out (fun _ hk => ⟨hk.1.1, ⟨hk.1.2.1, ⟨hk.2, ⟨hk.1.2.2.1, ⟨hk.1.2.2.2.1, hk.1.2.2.2.2⟩⟩⟩⟩⟩)⟩, ⟨by (with_reducible repeat (first | apply Kd.S_alloc | apply Kd.S_drewN | apply Kd.S_drew)); exact Kd.S_mono HO_13.out (fun _ hk => ⟨hk.1.1, ⟨hk.1.2.1, ⟨hk.2, ⟨hk.1.2.2.1, ⟨hk.1.2.2.2.1, hk.1.2.2.2.2⟩⟩⟩⟩⟩)⟩, ⟨xR HO497.out⟩, ⟨by (with_reducible repeat (first | apply rA | apply rN | apply rD)); exact rM HO_439000.out (fun _ hk => ⟨hk.1.1, ⟨hk.2, ⟨hk.1.2.1, hk.1.2.2⟩⟩⟩)⟩, ⟨by (with_reducible repeat (first | apply rA | apply rN | apply rD)); exact rM HO_472000.out (fun _ hk => ⟨hk.1.1, ⟨hk.2, ⟨hk.1.2.1, hk.1.2.2⟩⟩⟩)⟩, ⟨by (with_reducible repeat (first | apply rA | apply rN | apply rD)); exact rM HO_478000.out (fun _ hk => ⟨hk.1.1, ⟨hk.2, ⟨hk.1.2.1, hk.1.2.2⟩⟩⟩)⟩, ⟨xB BK438.out⟩, ⟨xB BK471.out⟩, ⟨xB BK477.out⟩, ⟨xG3 HB.out GE438.out GE471.out GE477.out⟩⟩
                  ·
                   rw [if_neg c136] at H
                   exact absurd H (by simp)
                ·
                 rw [if_neg c130] at H
                 have c130b0 : decide (x38_9 < (t431.length : Int)) = false := decide_eq_false c130
                 clear c130
                 have H' := aM H
                 clear H
                 have hnb141 := NB438_471.out
                 have hnc141 := NB471_438.out
                 have hnb142 := NB438_477.out
                 have hnc142 := NB477_438.out
                 have hcz143_0 : wr.cell? ⟨gb438, 0, none⟩ = some (.slice Ao10 t431.length co10) := (bC BK438.out 0).trans rfl
                 have hcz143_1 : wr.cell? ⟨gb438, 1, none⟩ = some (.int .i64 t434) := (bC BK438.out 1).trans rfl
                 have hfz143_0 := bF BK438.out 0
                 have hfz143_1 := bF BK438.out 1
                 go_wp2
                 repeat (go_quiet (fail); try go_wp2)
                 go_loopg [39, 41] k9 (fun kq v39 v41 w' => ∃ (x39_10 : Bool) (x41_10 : Int), v39 = .bool x39_10 ∧ v41 = .int .i64 x41_10 ∧ Aside0 (laws_FnVotes.l1 kq t435 t439 t443 t453 x37_9 x39_10 false x41_10 t466 t469 = some r) ∧ Aside0 (kq ≤ k9) ∧ Aside0 (Kd.R (Kd.int .i64) 3 w' w.heap.size (fun k_ => some k_ ≠ (u37 : Value).ownBlock ∧ some k_ ≠ ((.slice Ao10 t431.length co10) : Value).ownBlock ∧ some k_ ≠ ((.slice Ao65 t466.length co65) : Value).ownBlock ∧ some k_ ≠ ((.slice Ao71 t472.length co71) : Value).ownBlock) (.slice Ao12 t435.length co12) t435) ∧ Aside0 (Kd.S (Kd.slice 3 (Kd.int .i64)) 24 w' w.heap.size (fun k_ => some k_ ≠ ((.slice Ao12 t435.length co12) : Value).ownBlock ∧ some k_ ≠ (v454 : Value).ownBlock ∧ some k_ ≠ (u37 : Value).ownBlock ∧ some k_ ≠ ((.slice Ao10 t431.length co10) : Value).ownBlock ∧ some k_ ≠ ((.slice Ao65 t466.length co65) : Value).ownBlock ∧ some k_ ≠ ((.slice Ao71 t472.length co71) : Value).ownBlock) v444 t443) ∧ Aside0 (Kd.S (Kd.slice 3 (Kd.int .i64)) 24 w' w.heap.size (fun k_ => some k_ ≠ ((.slice Ao12 t435.length co12) : Value).ownBlock ∧ some k_ ≠ (v444 : Value).ownBlock ∧ some k_ ≠ (u37 : Value).ownBlock ∧ some k_ ≠ ((.slice Ao10 t431.length co10) : Value).ownBlock ∧ some k_ ≠ ((.slice Ao65 t466.length co65) : Value).ownBlock ∧ some k_ ≠ ((.slice Ao71 t472.length co71) : Value).ownBlock) v454 t453) ∧ Aside0 (Kd.R (Kd.int .i64) 3 w' w.heap.size (fun k_ => some k_ ≠ ((.slice Ao12 t435.length co12) : Value).ownBlock ∧ some k_ ≠ ((.slice Ao10 t431.length co10) : Value).ownBlock ∧ some k_ ≠ ((.slice Ao65 t466.length co65) : Value).ownBlock ∧ some k_ ≠ ((.slice Ao71 t472.length co71) : Value).ownBlock) u37 x37_9) ∧ Aside0 (Kd.R (Kd.int .i64) 3 w' w.heap.size (fun k_ => some k_ ≠ ((.slice Ao12 t435.length co12) : Value).ownBlock ∧ some k_ ≠ (u37 : Value).ownBlock ∧ some k_ ≠ ((.slice Ao65 t466.length co65) : Value).ownBlock ∧ some k_ ≠ ((.slice Ao71 t472.length co71) : Value).ownBlock) (.slice Ao10 t431.length co10) t431) ∧ Aside0 (Kd.R (Kd.int .i64) 3 w' w.heap.size (fun k_ => some k_ ≠ ((.slice Ao12 t435.length co12) : Value).ownBlock ∧ some k_ ≠ (u37 : Value).ownBlock ∧ some k_ ≠ ((.slice Ao10 t431.length co10) : Value).ownBlock ∧ some k_ ≠ ((.slice Ao71 t472.length co71) : Value).ownBlock) (.slice Ao65 t466.length co65) t466) ∧ Aside0 (Kd.R (Kd.int .i64) 3 w' w.heap.size (fun k_ => some k_ ≠ ((.slice Ao12 t435.length co12) : Value).ownBlock ∧ some k_ ≠ (u37 : Value).ownBlock ∧ some k_ ≠ ((.slice Ao10 t431.length co10) : Value).ownBlock ∧ some k_ ≠ ((.slice Ao65 t466.length co65) : Value).ownBlock) (.slice Ao71 t472.length co71) t472) ∧ Aside0 (w'.heap[gb438]? = some (.cells #[(.slice Ao10 t431.length co10), .int .i64 t434] 26 (0, 0))) ∧ Aside0 (w'.heap[gb471]? = some (.cells #[(.slice Ao65 t466.length co65), .int .i64 t469] 26 (0, 0))) ∧ Aside0 (w'.heap[gb477]? = some (.cells #[(.slice Ao71 t472.length co71), .int .i64 t475] 26 (0, 0))) ∧ Aside0 (Below w.heap.size w w'))
                 case atStart => exact ⟨(false), (0), (by first | rfl | (simp; done) | (simp [*]; done)), (by first | rfl | (simp; done) | (simp [*]; done)), H', ⟨Nat.le_refl _⟩, ⟨xR HO_4.out⟩, ⟨xS HO_9.out⟩, ⟨xS HO_13.out⟩, ⟨xR HO_37.out⟩, ⟨xR HO_439000.out⟩, ⟨xR HO_472000.out⟩, ⟨xR HO_478000.out⟩, ⟨xB BK438.out⟩, ⟨xB BK471.out⟩, ⟨xB BK477.out⟩, ⟨xG3 HB.out GE438.out GE471.out GE477.out⟩⟩
                 case round =>
                  as_aux_lemma =>
                   clear H'
                   try clear c130; try clear c130b0; try clear c132; try clear c136; try clear hcz135_0; try clear hcz135_1; try clear hcz139_0; try clear hcz139_1; try clear hcz143_0; try clear hcz143_1; try clear hfz135_0; try clear hfz135_1; try clear hfz139_0; try clear hfz139_1; try clear hfz143_0; try clear hfz143_1
                   obtain ⟨x39_10, x41_10, rfl, rfl, HA, HK10, HO_4, HO_9, HO_13, HO_37, HO_439000, HO_472000, HO_478000, BK438, BK471, BK477, HB⟩ := hrel
                   cases gk with
                   | zero => exact absurd HA.out (by simp [laws_FnVotes.l1])
                   | succ k10 =>
                    have H := HA.out
                    clear HA
                    simp only [laws_FnVotes.l1] at H
                    by_cases c144 : x41_10 < (t443.length : Int)
                    ·
                     rw [if_pos c144] at H
                     have c144b0 : decide (x41_10 < (t443.length : Int)) = true := decide_eq_true c144
                     clear c144
                     have H' := aM H
                     clear H
                     obtain ⟨Ao145, co145, eo145⟩ := Kd.S_slice HO_9.out
                     subst eo145
                     go_wp2
                     repeat (go_quiet (fail); try go_wp2)
                     go_loopg [42, 43] k10 (fun kq v42 v43 w' => ∃ (x42_11 : Bool) (x43_11 : Int), v42 = .bool x42_11 ∧ v43 = .int .i64 x43_11 ∧ Aside0 (laws_FnVotes.l2 kq t435 t439 t443 t453 x37_9 x39_10 false x41_10 x42_11 x43_11 t466 t469 = some r) ∧ Aside0 (kq ≤ k10) ∧ Aside0 (Kd.R (Kd.int .i64) 3 w' w.heap.size (fun k_ => some k_ ≠ (u37 : Value).ownBlock ∧ some k_ ≠ ((.slice Ao10 t431.length co10) : Value).ownBlock ∧ some k_ ≠ ((.slice Ao65 t466.length co65) : Value).ownBlock ∧ some k_ ≠ ((.slice Ao71 t472.length co71) : Value).ownBlock) (.slice Ao12 t435.length co12) t435) ∧ Aside0 (Kd.S (Kd.slice 3 (Kd.int .i64)) 24 w' w.heap.size (fun k_ => some k_ ≠ ((.slice Ao12 t435.length co12) : Value).ownBlock ∧ some k_ ≠ (v454 : Value).ownBlock ∧ some k_ ≠ (u37 : Value).ownBlock ∧ some k_ ≠ ((.slice Ao10 t431.length co10) : Value).ownBlock ∧ some k_ ≠ ((.slice Ao65 t466.length co65) : Value).ownBlock ∧ some k_ ≠ ((.slice Ao71 t472.length co71) : Value).ownBlock) (.slice Ao145 t443.length co145) t443) ∧ Aside0 (Kd.S (Kd.slice 3 (Kd.int .i64)) 24 w' w.heap.size (fun k_ => some k_ ≠ ((.slice Ao12 t435.length co12) : Value).ownBlock ∧ some k_ ≠ ((.slice Ao145 t443.length co145) : Value).ownBlock ∧ some k_ ≠ (u37 : Value).ownBlock ∧ some k_ ≠ ((.slice Ao10 t431.length co10) : Value).ownBlock ∧ some k_ ≠ ((.slice Ao65 t466.length co65) : Value).ownBlock ∧ some k_ ≠ ((.slice Ao71 t472.length co71) : Value).ownBlock) v454 t453) ∧ Aside0 (Kd.R (Kd.int .i64) 3 w' w.heap.size (fun k_ => some k_ ≠ ((.slice Ao12 t435.length co12) : Value).ownBlock ∧ some k_ ≠ ((.slice Ao10 t431.length co10) : Value).ownBlock ∧ some k_ ≠ ((.slice Ao65 t466.length co65) : Value).ownBlock ∧ some k_ ≠ ((.slice Ao71 t472.length co71) : Value).ownBlock) u37 x37_9) ∧ Aside0 (Kd.R (Kd.int .i64) 3 w' w.heap.size (fun k_ => some k_ ≠ ((.slice Ao12 t435.length co12) : Value).ownBlock ∧ some k_ ≠ (u37 : Value).ownBlock ∧ some k_ ≠ ((.slice Ao65 t466.length co65) : Value).ownBlock ∧ some k_ ≠ ((.slice Ao71 t472.length co71) : Value).ownBlock) (.slice Ao10 t431.length co10) t431) ∧ Aside0 (Kd.R (Kd.int .i64) 3 w' w.heap.size (fun k_ => some k_ ≠ ((.slice Ao12 t435.length co12) : Value).ownBlock ∧ some k_ ≠ (u37 : Value).ownBlock ∧ some k_ ≠ ((.slice Ao10 t431.length co10) : Value).ownBlock ∧ some k_ ≠ ((.slice Ao71 t472.length co71) : Value).ownBlock) (.slice Ao65 t466.length co65) t466) ∧ Aside0 (Kd.R (Kd.int .i64) 3 w' w.heap.size (fun k_ => some k_ ≠ ((.slice Ao12 t435.length co12) : Value).ownBlock ∧ some k_ ≠ (u37 : Value).ownBlock ∧ some k_ ≠ ((.slice Ao10 t431.length co10) : Value).ownBlock ∧ some k_ ≠ ((.slice Ao65 t466.length co65) : Value).ownBlock) (.slice Ao71 t472.length co71) t472) ∧ Aside0 (w'.heap[gb438]? = some (.cells #[(.slice Ao10 t431.length co10), .int .i64 t434] 26 (0, 0))) ∧ Aside0 (w'.heap[gb471]? = some (.cells #[(.slice Ao65 t466.length co65), .int .i64 t469] 26 (0, 0))) ∧ Aside0 (w'.heap[gb477]? = some (.cells #[(.slice Ao71 t472.length co71), .int .i64 t475] 26 (0, 0))) ∧ Aside0 (Below w.heap.size w w'))
                     case atStart => exact ⟨(true), (0), (by first | rfl | (simp; done) | (simp [*]; done)), (by first | rfl | (simp; done) | (simp [*]; done)), H', ⟨Nat.le_refl _⟩, ⟨xR HO_4.out⟩, ⟨xS HO_9.out⟩, ⟨xS HO_13.out⟩, ⟨xR HO_37.out⟩, ⟨xR HO_439000.out⟩, ⟨xR HO_472000.out⟩, ⟨xR HO_478000.out⟩, ⟨xB BK438.out⟩, ⟨xB BK471.out⟩, ⟨xB BK477.out⟩, ⟨xG3 HB.out GE438.out GE471.out GE477.out⟩⟩
                     case round =>
                      as_aux_lemma =>
                       clear H'
                       try clear c144; try clear c144b0
                       obtain ⟨x42_11, x43_11, rfl, rfl, HA, HK11, HO_4, HO_9, HO_13, HO_37, HO_439000, HO_472000, HO_478000, BK438, BK471, BK477, HB⟩ := hrel
                       cases gk with
                       | zero => exact absurd HA.out (by simp [laws_FnVotes.l2])
                       | succ k11 =>
                        have H := HA.out
                        clear HA
                        simp only [laws_FnVotes.l2] at H
                        by_cases c146 : 0 ≤ x41_10
                        ·
                         rw [if_pos c146] at H
                         have c146b0 : decide (0 ≤ x41_10) = true := decide_eq_true c146
                         clear c146
                         by_cases c147 : x41_10 < (t443.length : Int)
                         ·
                          rw [if_pos c147] at H
                          have c147b0 : decide (x41_10 < (t443.length : Int)) = true := decide_eq_true c147
                          clear c147
                          by_cases c148 : x43_11 < ((rd_L3 t443 x41_10).length : Int)
                          ·
                           rw [if_pos c148] at H
                           have c148b0 : decide (x43_11 < ((rd_L3 t443 x41_10).length : Int)) = true := decide_eq_true c148
                           clear c148
                           by_cases c149 : x42_11 = true
                           ·
                            subst c149
                            have H1 : (if 0 ≤ x43_11 then ((laws_rHas.f k11 t435 (rd (rd_L3 t443 x41_10) x43_11)).bind fun t501 => (laws_FnVotes.l2 k11 t435 t439 t443 t453 x37_9 x39_10 false x41_10 t501 (wrap64 (x43_11 + 1)) t466 t469)) else (none)) = some r := by rw [if_pos rfl] at H; exact H
                            clear H
                            have H := H1
                            clear H1
                            by_cases c150 : 0 ≤ x43_11
                            ·
                             rw [if_pos c150] at H
                             have c150b0 : decide (0 ≤ x43_11) = true := decide_eq_true c150
                             clear c150
                             replace H := oB.mp H
                             obtain ⟨t501, A1510, H⟩ := H
                             replace H : (laws_FnVotes.l2 k11 t435 t439 t443 t453 x37_9 x39_10 false x41_10 t501 (wrap64 (x43_11 + 1)) t466 t469) = some r := H
                             have A151 := aM A1510
                             clear A1510
                             have H' := aM H
                             clear H
                             have p498 : 0 ≤ (x41_10 : Int) := of_decide_eq_true (by first | (with_reducible assumption) | assumption)
                             have q498 : x41_10 < (t443.length : Int) := of_decide_eq_true (by first | (with_reducible assumption) | assumption)
                             obtain ⟨ad498, A498_0, c498_0, e498, hx498_0, hl498_0, hi498_0⟩ := at_L3 (Kd.S_reads' HO_9.out).2.2 x41_10 p498 q498
                             cases e498
                             obtain ⟨ce498, hce498, hMe498, hcc498⟩ := Kd.S_get HO_9.out [] x41_10 p498 (by first | exact q498 | exact of_decide_eq_true (by first | (with_reducible assumption) | assumption) | (have e_ := (Kd.S_reads' HO_9.out).1; omega))
                             obtain ⟨ve498_0, rfl, ge498_0⟩ := hMe498
                             have hv498_0 := hcc498 0 _ rfl
                             rw [Nat.add_zero, show ((Kd.slice 3 (Kd.int .i64))).sz = 1 from rfl, Nat.mul_one] at hv498_0
                             replace hv498_0 := Option.some.inj (hv498_0.symm.trans hx498_0)
                             rw [hv498_0] at ge498_0
                             have HL498_0 := aM (show Kd.R (Kd.int .i64) 3 _ _ _ _ (rd_L3 t443 x41_10) from ge498_0)
                             clear hv498_0 ge498_0
                             clear hcc498 hce498
                             have HR498_0 := aM hi498_0
                             have HC498_0 := aM hl498_0
                             clear hi498_0 hl498_0
                             replace p498 := eq_true p498
                             replace q498 := eq_true q498
                             have p499 : 0 ≤ (x41_10 : Int) := of_decide_eq_true (by first | (with_reducible assumption) | assumption)
                             have q499 : x41_10 < (t443.length : Int) := of_decide_eq_true (by first | (with_reducible assumption) | assumption)
                             obtain ⟨ad499, A499_0, c499_0, e499, hx499_0, hl499_0, hi499_0⟩ := at_L3 (Kd.S_reads' HO_9.out).2.2 x41_10 p499 q499
                             obtain rfl : ad498 = ad499 := (by injection e499)
                             obtain ⟨ce499, hce499, hMe499, hcc499⟩ := Kd.S_get HO_9.out [] x41_10 p499 (by first | exact q499 | exact of_decide_eq_true (by first | (with_reducible assumption) | assumption) | (have e_ := (Kd.S_reads' HO_9.out).1; omega))
                             obtain ⟨ve499_0, rfl, ge499_0⟩ := hMe499
                             have hv499_0 := hcc499 0 _ rfl
                             rw [Nat.add_zero, show ((Kd.slice 3 (Kd.int .i64))).sz = 1 from rfl, Nat.mul_one] at hv499_0
                             replace hv499_0 := Option.some.inj (hv499_0.symm.trans hx499_0)
                             rw [hv499_0] at ge499_0
                             have HL499_0 := aM (show Kd.R (Kd.int .i64) 3 _ _ _ _ (rd_L3 t443 x41_10) from ge499_0)
                             clear hv499_0 ge499_0
                             clear hcc499 hce499
                             have HR499_0 := aM hi499_0
                             have HC499_0 := aM hl499_0
                             clear hi499_0 hl499_0
                             replace p499 := eq_true p499
                             replace q499 := eq_true q499
                             have ea_ := Option.some.inj (hx498_0.symm.trans hx499_0)
                             injection ea_ with ea_ en_ ec_
                             subst ea_
                             subst ec_
                             clear en_
                             have p500 : 0 ≤ (x43_11 : Int) := of_decide_eq_true (by first | (with_reducible assumption) | assumption)
                             have q500 : x43_11 < ((rd_L3 t443 x41_10).length : Int) := of_decide_eq_true (by first | (with_reducible assumption) | assumption)
                             obtain ⟨ad500, e500, hx500_0⟩ := Kd.at_int (by repeat (first | (with_reducible exact HR499_0.out) | (with_reducible refine Kd.C_alloc ?_ _) | (with_reducible refine Kd.C_drewN ?_ _) | (with_reducible refine Kd.C_drew ?_) | exact HR499_0.out)) x43_11 p500 q500
                             cases e500
                             replace p500 := eq_true p500
                             replace q500 := eq_true q500
                             go_wp2_with (first | (go_at_call 23; (with_reducible refine (laws_rHas.calls k11 _ _ t435 (rd (rd_L3 t443 x41_10) x43_11) t501 _ ?side1 ?side2 A151.out).mono ?_); (case side1 => exact xC (Kd.R_reads' HO_4.out).2.2); (case side2 => exact (Kd.R_reads' HO_4.out).2.1); rintro e w' ⟨rfl, ⟨nd, rfl⟩⟩; (try first | exact ⟨rfl, _, World.drewN_drewN _ _ _⟩ | exact ⟨rfl, _, Eq.trans (World.drewN_drewN _ _ _) (congrArg (World.drewN _) (Nat.add_assoc _ _ _))⟩)))
                             repeat (go_quiet (first | (go_at_call 23; (with_reducible refine (laws_rHas.calls k11 _ _ t435 (rd (rd_L3 t443 x41_10) x43_11) t501 _ ?side1 ?side2 A151.out).mono ?_); (case side1 => exact xC (Kd.R_reads' HO_4.out).2.2); (case side2 => exact (Kd.R_reads' HO_4.out).2.1); rintro e w' ⟨rfl, ⟨nd, rfl⟩⟩; (try first | exact ⟨rfl, _, World.drewN_drewN _ _ _⟩ | exact ⟨rfl, _, Eq.trans (World.drewN_drewN _ _ _) (congrArg (World.drewN _) (Nat.add_assoc _ _ _))⟩))); try go_wp2_with (first | (go_at_call 23; (with_reducible refine (laws_rHas.calls k11 _ _ t435 (rd (rd_L3 t443 x41_10) x43_11) t501 _ ?side1 ?side2 A151.out).mono ?_); (case side1 => exact xC (Kd.R_reads' HO_4.out).2.2); (case side2 => exact (Kd.R_reads' HO_4.out).2.1); rintro e w' ⟨rfl, ⟨nd, rfl⟩⟩; (try first | exact ⟨rfl, _, World.drewN_drewN _ _ _⟩ | exact ⟨rfl, _, Eq.trans (World.drewN_drewN _ _ _) (congrArg (World.drewN _) (Nat.add_assoc _ _ _))⟩))))
                             go_roundg k11
                             case measure => have := HJ6.out; have := HJ19.out; have := HJ37.out; have := HJ50.out; have := HJ60.out; have := HJ86.out; have := HJ98.out; have := HJ111.out; have := HK9.out; have := HK10.out; have := HK11.out; omega
                             case rel => exact ⟨(t501), (wrap64 (x43_11 + 1)), (by first | rfl | (simp; done) | (simp [*]; done)), (by first | rfl | (simp; done) | (simp [*]; done)), H', ⟨by have := HJ6.out; have := HJ19.out; have := HJ37.out; have := HJ50.out; have := HJ60.out; have := HJ86.out; have := HJ98.out; have := HJ111.out; have := HK9.out; have := HK10.out; have := HK11.out; omega⟩, ⟨xR HO_4.out⟩, ⟨xS HO_9.out⟩, ⟨xS HO_13.out⟩, ⟨xR HO_37.out⟩, ⟨xR HO_439000.out⟩, ⟨xR HO_472000.out⟩, ⟨xR HO_478000.out⟩, ⟨xB BK438.out⟩, ⟨xB BK471.out⟩, ⟨xB BK477.out⟩, ⟨xG3 HB.out GE438.out GE471.out GE477.out⟩⟩
                            ·
                             rw [if_neg c150] at H
                             exact absurd H (by simp)
                           ·
                            replace c149 := Bool.eq_false_iff.mpr c149
                            subst c149
                            have H1 : (laws_FnVotes.l2 k11 t435 t439 t443 t453 x37_9 x39_10 false x41_10 false (wrap64 (x43_11 + 1)) t466 t469) = some r := by rw [if_neg (show ¬ (false = true) by decide)] at H; exact H
                            clear H
                            have H := H1
                            clear H1
                            have H' := aM H
                            clear H
                            have p498 : 0 ≤ (x41_10 : Int) := of_decide_eq_true (by first | (with_reducible assumption) | assumption)
                            have q498 : x41_10 < (t443.length : Int) := of_decide_eq_true (by first | (with_reducible assumption) | assumption)
                            obtain ⟨ad498, A498_0, c498_0, e498, hx498_0, hl498_0, hi498_0⟩ := at_L3 (Kd.S_reads' HO_9.out).2.2 x41_10 p498 q498
                            cases e498
                            obtain ⟨ce498, hce498, hMe498, hcc498⟩ := Kd.S_get HO_9.out [] x41_10 p498 (by first | exact q498 | exact of_decide_eq_true (by first | (with_reducible assumption) | assumption) | (have e_ := (Kd.S_reads' HO_9.out).1; omega))
                            obtain ⟨ve498_0, rfl, ge498_0⟩ := hMe498
                            have hv498_0 := hcc498 0 _ rfl
                            rw [Nat.add_zero, show ((Kd.slice 3 (Kd.int .i64))).sz = 1 from rfl, Nat.mul_one] at hv498_0
                            replace hv498_0 := Option.some.inj (hv498_0.symm.trans hx498_0)
                            rw [hv498_0] at ge498_0
                            have HL498_0 := aM (show Kd.R (Kd.int .i64) 3 _ _ _ _ (rd_L3 t443 x41_10) from ge498_0)
                            clear hv498_0 ge498_0
                            clear hcc498 hce498
                            have HR498_0 := aM hi498_0
                            have HC498_0 := aM hl498_0
                            clear hi498_0 hl498_0
                            replace p498 := eq_true p498
                            replace q498 := eq_true q498
                            go_wp2
                            repeat (go_quiet (fail); try go_wp2)
                            go_roundg k11
                            case measure => have := HJ6.out; have := HJ19.out; have := HJ37.out; have := HJ50.out; have := HJ60.out; have := HJ86.out; have := HJ98.out; have := HJ111.out; have := HK9.out; have := HK10.out; have := HK11.out; omega
                            case rel => exact ⟨(false), (wrap64 (x43_11 + 1)), (by first | rfl | (simp; done) | (simp [*]; done)), (by first | rfl | (simp; done) | (simp [*]; done)), H', ⟨by have := HJ6.out; have := HJ19.out; have := HJ37.out; have := HJ50.out; have := HJ60.out; have := HJ86.out; have := HJ98.out; have := HJ111.out; have := HK9.out; have := HK10.out; have := HK11.out; omega⟩, ⟨xR HO_4.out⟩, ⟨xS HO_9.out⟩, ⟨xS HO_13.out⟩, ⟨xR HO_37.out⟩, ⟨xR HO_439000.out⟩, ⟨xR HO_472000.out⟩, ⟨xR HO_478000.out⟩, ⟨xB BK438.out⟩, ⟨xB BK471.out⟩, ⟨xB BK477.out⟩, ⟨xG3 HB.out GE438.out GE471.out GE477.out⟩⟩
                          ·
                           rw [if_neg c148] at H
                           have c148b0 : decide (x43_11 < ((rd_L3 t443 x41_10).length : Int)) = false := decide_eq_false c148
                           clear c148
                           by_cases c152 : x39_10 = true
                           ·
                            subst c152
                            have H1 : (laws_FnVotes.l1 k11 t435 t439 t443 t453 x37_9 true false (wrap64 (x41_10 + 1)) t466 t469) = some r := by rw [if_pos rfl] at H; exact H
                            clear H
                            have H := H1
                            clear H1
                            have H' := aM H
                            clear H
                            have p498 : 0 ≤ (x41_10 : Int) := of_decide_eq_true (by first | (with_reducible assumption) | assumption)
                            have q498 : x41_10 < (t443.length : Int) := of_decide_eq_true (by first | (with_reducible assumption) | assumption)
                            obtain ⟨ad498, A498_0, c498_0, e498, hx498_0, hl498_0, hi498_0⟩ := at_L3 (Kd.S_reads' HO_9.out).2.2 x41_10 p498 q498
                            cases e498
                            obtain ⟨ce498, hce498, hMe498, hcc498⟩ := Kd.S_get HO_9.out [] x41_10 p498 (by first | exact q498 | exact of_decide_eq_true (by first | (with_reducible assumption) | assumption) | (have e_ := (Kd.S_reads' HO_9.out).1; omega))
                            obtain ⟨ve498_0, rfl, ge498_0⟩ := hMe498
                            have hv498_0 := hcc498 0 _ rfl
                            rw [Nat.add_zero, show ((Kd.slice 3 (Kd.int .i64))).sz = 1 from rfl, Nat.mul_one] at hv498_0
                            replace hv498_0 := Option.some.inj (hv498_0.symm.trans hx498_0)
                            rw [hv498_0] at ge498_0
                            have HL498_0 := aM (show Kd.R (Kd.int .i64) 3 _ _ _ _ (rd_L3 t443 x41_10) from ge498_0)
                            clear hv498_0 ge498_0
                            clear hcc498 hce498
                            have HR498_0 := aM hi498_0
                            have HC498_0 := aM hl498_0
                            clear hi498_0 hl498_0
                            replace p498 := eq_true p498
                            replace q498 := eq_true q498
                            go_wp2
                            repeat (go_quiet (fail); try go_wp2)
                            go_roundg k11
                            case measure => have := HJ6.out; have := HJ19.out; have := HJ37.out; have := HJ50.out; have := HJ60.out; have := HJ86.out; have := HJ98.out; have := HJ111.out; have := HK9.out; have := HK10.out; have := HK11.out; omega
                            case rel => exact ⟨(true), (wrap64 (x41_10 + 1)), (by first | rfl | (simp; done) | (simp [*]; done)), (by first | rfl | (simp; done) | (simp [*]; done)), H', ⟨by have := HJ6.out; have := HJ19.out; have := HJ37.out; have := HJ50.out; have := HJ60.out; have := HJ86.out; have := HJ98.out; have := HJ111.out; have := HK9.out; have := HK10.out; have := HK11.out; omega⟩, ⟨xR HO_4.out⟩, ⟨xS HO_9.out⟩, ⟨xS HO_13.out⟩, ⟨xR HO_37.out⟩, ⟨xR HO_439000.out⟩, ⟨xR HO_472000.out⟩, ⟨xR HO_478000.out⟩, ⟨xB BK438.out⟩, ⟨xB BK471.out⟩, ⟨xB BK477.out⟩, ⟨xG3 HB.out GE438.out GE471.out GE477.out⟩⟩
                           ·
                            replace c152 := Bool.eq_false_iff.mpr c152
                            subst c152
                            have H1 : (laws_FnVotes.l1 k11 t435 t439 t443 t453 x37_9 x42_11 false (wrap64 (x41_10 + 1)) t466 t469) = some r := by rw [if_neg (show ¬ (false = true) by decide)] at H; exact H
                            clear H
                            have H := H1
                            clear H1
                            have H' := aM H
                            clear H
                            have p498 : 0 ≤ (x41_10 : Int) := of_decide_eq_true (by first | (with_reducible assumption) | assumption)
                            have q498 : x41_10 < (t443.length : Int) := of_decide_eq_true (by first | (with_reducible assumption) | assumption)
                            obtain ⟨ad498, A498_0, c498_0, e498, hx498_0, hl498_0, hi498_0⟩ := at_L3 (Kd.S_reads' HO_9.out).2.2 x41_10 p498 q498
                            cases e498
                            obtain ⟨ce498, hce498, hMe498, hcc498⟩ := Kd.S_get HO_9.out [] x41_10 p498 (by first | exact q498 | exact of_decide_eq_true (by first | (with_reducible assumption) | assumption) | (have e_ := (Kd.S_reads' HO_9.out).1; omega))
                            obtain ⟨ve498_0, rfl, ge498_0⟩ := hMe498
                            have hv498_0 := hcc498 0 _ rfl
                            rw [Nat.add_zero, show ((Kd.slice 3 (Kd.int .i64))).sz = 1 from rfl, Nat.mul_one] at hv498_0
                            replace hv498_0 := Option.some.inj (hv498_0.symm.trans hx498_0)
                            rw [hv498_0] at ge498_0
                            have HL498_0 := aM (show Kd.R (Kd.int .i64) 3 _ _ _ _ (rd_L3 t443 x41_10) from ge498_0)
                            clear hv498_0 ge498_0
                            clear hcc498 hce498
                            have HR498_0 := aM hi498_0
                            have HC498_0 := aM hl498_0
                            clear hi498_0 hl498_0
                            replace p498 := eq_true p498
                            replace q498 := eq_true q498
                            go_wp2
                            repeat (go_quiet (fail); try go_wp2)
                            go_roundg k11
                            case measure => have := HJ6.out; have := HJ19.out; have := HJ37.out; have := HJ50.out; have := HJ60.out; have := HJ86.out; have := HJ98.out; have := HJ111.out; have := HK9.out; have := HK10.out; have := HK11.out; omega
                            case rel => exact ⟨(x42_11), (wrap64 (x41_10 + 1)), (by first | rfl | (simp; done) | (simp [*]; done)), (by first | rfl | (simp; done) | (simp [*]; done)), H', ⟨by have := HJ6.out; have := HJ19.out; have := HJ37.out; have := HJ50.out; have := HJ60.out; have := HJ86.out; have := HJ98.out; have := HJ111.out; have := HK9.out; have := HK10.out; have := HK11.out; omega⟩, ⟨xR HO_4.out⟩, ⟨xS HO_9.out⟩, ⟨xS HO_13.out⟩, ⟨xR HO_37.out⟩, ⟨xR HO_439000.out⟩, ⟨xR HO_472000.out⟩, ⟨xR HO_478000.out⟩, ⟨xB BK438.out⟩, ⟨xB BK471.out⟩, ⟨xB BK477.out⟩, ⟨xG3 HB.out GE438.out GE471.out GE477.out⟩⟩
                         ·
                          rw [if_neg c147] at H
                          exact absurd H (by simp)
                        ·
                         rw [if_neg c146] at H
                         exact absurd H (by simp)
                    ·
                     rw [if_neg c144] at H
                     have c144b0 : decide (x41_10 < (t443.length : Int)) = false := decide_eq_false c144
                     clear c144
                     have H' := aM H
                     clear H
                     obtain ⟨Ao153, co153, eo153⟩ := Kd.S_slice HO_9.out
                     subst eo153
                     go_wp2
                     repeat (go_quiet (fail); try go_wp2)
                     go_loopg [40, 44] k10 (fun kq v40 v44 w' => ∃ (x40_11 : Bool) (x44_11 : Int), v40 = .bool x40_11 ∧ v44 = .int .i64 x44_11 ∧ Aside0 (laws_FnVotes.l3 kq t435 t439 t453 x37_9 x39_10 x40_11 x44_11 t466 t469 = some r) ∧ Aside0 (kq ≤ k10) ∧ Aside0 (Kd.R (Kd.int .i64) 3 w' w.heap.size (fun k_ => some k_ ≠ (u37 : Value).ownBlock ∧ some k_ ≠ ((.slice Ao10 t431.length co10) : Value).ownBlock ∧ some k_ ≠ ((.slice Ao65 t466.length co65) : Value).ownBlock ∧ some k_ ≠ ((.slice Ao71 t472.length co71) : Value).ownBlock) (.slice Ao12 t435.length co12) t435) ∧ Aside0 (Kd.S (Kd.slice 3 (Kd.int .i64)) 24 w' w.heap.size (fun k_ => some k_ ≠ ((.slice Ao12 t435.length co12) : Value).ownBlock ∧ some k_ ≠ (u37 : Value).ownBlock ∧ some k_ ≠ ((.slice Ao10 t431.length co10) : Value).ownBlock ∧ some k_ ≠ ((.slice Ao65 t466.length co65) : Value).ownBlock ∧ some k_ ≠ ((.slice Ao71 t472.length co71) : Value).ownBlock) v454 t453) ∧ Aside0 (Kd.R (Kd.int .i64) 3 w' w.heap.size (fun k_ => some k_ ≠ ((.slice Ao12 t435.length co12) : Value).ownBlock ∧ some k_ ≠ ((.slice Ao10 t431.length co10) : Value).ownBlock ∧ some k_ ≠ ((.slice Ao65 t466.length co65) : Value).ownBlock ∧ some k_ ≠ ((.slice Ao71 t472.length co71) : Value).ownBlock) u37 x37_9) ∧ Aside0 (Kd.R (Kd.int .i64) 3 w' w.heap.size (fun k_ => some k_ ≠ ((.slice Ao12 t435.length co12) : Value).ownBlock ∧ some k_ ≠ (u37 : Value).ownBlock ∧ some k_ ≠ ((.slice Ao65 t466.length co65) : Value).ownBlock ∧ some k_ ≠ ((.slice Ao71 t472.length co71) : Value).ownBlock) (.slice Ao10 t431.length co10) t431) ∧ Aside0 (Kd.R (Kd.int .i64) 3 w' w.heap.size (fun k_ => some k_ ≠ ((.slice Ao12 t435.length co12) : Value).ownBlock ∧ some k_ ≠ (u37 : Value).ownBlock ∧ some k_ ≠ ((.slice Ao10 t431.length co10) : Value).ownBlock ∧ some k_ ≠ ((.slice Ao71 t472.length co71) : Value).ownBlock) (.slice Ao65 t466.length co65) t466) ∧ Aside0 (Kd.R (Kd.int .i64) 3 w' w.heap.size (fun k_ => some k_ ≠ ((.slice Ao12 t435.length co12) : Value).ownBlock ∧ some k_ ≠ (u37 : Value).ownBlock ∧ some k_ ≠ ((.slice Ao10 t431.length co10) : Value).ownBlock ∧ some k_ ≠ ((.slice Ao65 t466.length co65) : Value).ownBlock) (.slice Ao71 t472.length co71) t472) ∧ Aside0 (w'.heap[gb438]? = some (.cells #[(.slice Ao10 t431.length co10), .int .i64 t434] 26 (0, 0))) ∧ Aside0 (w'.heap[gb471]? = some (.cells #[(.slice Ao65 t466.length co65), .int .i64 t469] 26 (0, 0))) ∧ Aside0 (w'.heap[gb477]? = some (.cells #[(.slice Ao71 t472.length co71), .int .i64 t475] 26 (0, 0))) ∧ Aside0 (Below w.heap.size w w'))
                     case atStart => exact ⟨(false), (0), (by first | rfl | (simp; done) | (simp [*]; done)), (by first | rfl | (simp; done) | (simp [*]; done)), H', ⟨Nat.le_refl _⟩, ⟨xR HO_4.out⟩, ⟨by (with_reducible repeat (first | apply Kd.S_alloc | apply Kd.S_drewN | apply Kd.S_drew)); exact Kd.S_mono HO_13.out (fun _ hk => ⟨hk.1, ⟨hk.2.2.1, ⟨hk.2.2.2.1, ⟨hk.2.2.2.2.1, hk.2.2.2.2.2⟩⟩⟩⟩)⟩, ⟨xR HO_37.out⟩, ⟨xR HO_439000.out⟩, ⟨xR HO_472000.out⟩, ⟨xR HO_478000.out⟩, ⟨xB BK438.out⟩, ⟨xB BK471.out⟩, ⟨xB BK477.out⟩, ⟨xG3 HB.out GE438.out GE471.out GE477.out⟩⟩
                     case round =>
                      as_aux_lemma =>
                       clear H'
                       try clear c144; try clear c144b0; try clear c146; try clear c146b0; try clear c147; try clear c147b0; try clear c148; try clear c148b0; try clear c149; try clear c150; try clear c150b0; try clear c152; try clear hx498_0; try clear hx499_0; try clear hx500_0; try clear p498; try clear p499; try clear p500; try clear q498; try clear q499; try clear q500
                       obtain ⟨x40_11, x44_11, rfl, rfl, HA, HK11, HO_4, HO_13, HO_37, HO_439000, HO_472000, HO_478000, BK438, BK471, BK477, HB⟩ := hrel
                       cases gk with
                       | zero => exact absurd HA.out (by simp [laws_FnVotes.l3])
                       | succ k11 =>
                        have H := HA.out
                        clear HA
                        simp only [laws_FnVotes.l3] at H
                        by_cases c154 : x44_11 < (t453.length : Int)
                        ·
                         rw [if_pos c154] at H
                         have c154b0 : decide (x44_11 < (t453.length : Int)) = true := decide_eq_true c154
                         clear c154
                         have H' := aM H
                         clear H
                         obtain ⟨Ao155, co155, eo155⟩ := Kd.S_slice HO_13.out
                         subst eo155
                         go_wp2
                         repeat (go_quiet (fail); try go_wp2)
                         go_loopg [45, 46] k11 (fun kq v45 v46 w' => ∃ (x45_12 : Bool) (x46_12 : Int), v45 = .bool x45_12 ∧ v46 = .int .i64 x46_12 ∧ Aside0 (laws_FnVotes.l4 kq t435 t439 t453 x37_9 x39_10 x40_11 x44_11 x45_12 x46_12 t466 t469 = some r) ∧ Aside0 (kq ≤ k11) ∧ Aside0 (Kd.R (Kd.int .i64) 3 w' w.heap.size (fun k_ => some k_ ≠ (u37 : Value).ownBlock ∧ some k_ ≠ ((.slice Ao10 t431.length co10) : Value).ownBlock ∧ some k_ ≠ ((.slice Ao65 t466.length co65) : Value).ownBlock ∧ some k_ ≠ ((.slice Ao71 t472.length co71) : Value).ownBlock) (.slice Ao12 t435.length co12) t435) ∧ Aside0 (Kd.S (Kd.slice 3 (Kd.int .i64)) 24 w' w.heap.size (fun k_ => some k_ ≠ ((.slice Ao12 t435.length co12) : Value).ownBlock ∧ some k_ ≠ (u37 : Value).ownBlock ∧ some k_ ≠ ((.slice Ao10 t431.length co10) : Value).ownBlock ∧ some k_ ≠ ((.slice Ao65 t466.length co65) : Value).ownBlock ∧ some k_ ≠ ((.slice Ao71 t472.length co71) : Value).ownBlock) (.slice Ao155 t453.length co155) t453) ∧ Aside0 (Kd.R (Kd.int .i64) 3 w' w.heap.size (fun k_ => some k_ ≠ ((.slice Ao12 t435.length co12) : Value).ownBlock ∧ some k_ ≠ ((.slice Ao10 t431.length co10) : Value).ownBlock ∧ some k_ ≠ ((.slice Ao65 t466.length co65) : Value).ownBlock ∧ some k_ ≠ ((.slice Ao71 t472.length co71) : Value).ownBlock) u37 x37_9) ∧ Aside0 (Kd.R (Kd.int .i64) 3 w' w.heap.size (fun k_ => some k_ ≠ ((.slice Ao12 t435.length co12) : Value).ownBlock ∧ some k_ ≠ (u37 : Value).ownBlock ∧ some k_ ≠ ((.slice Ao65 t466.length co65) : Value).ownBlock ∧ some k_ ≠ ((.slice Ao71 t472.length co71) : Value).ownBlock) (.slice Ao10 t431.length co10) t431) ∧ Aside0 (Kd.R (Kd.int .i64) 3 w' w.heap.size (fun k_ => some k_ ≠ ((.slice Ao12 t435.length co12) : Value).ownBlock ∧ some k_ ≠ (u37 : Value).ownBlock ∧ some k_ ≠ ((.slice Ao10 t431.length co10) : Value).ownBlock ∧ some k_ ≠ ((.slice Ao71 t472.length co71) : Value).ownBlock) (.slice Ao65 t466.length co65) t466) ∧ Aside0 (Kd.R (Kd.int .i64) 3 w' w.heap.size (fun k_ => some k_ ≠ ((.slice Ao12 t435.length co12) : Value).ownBlock ∧ some k_ ≠ (u37 : Value).ownBlock ∧ some k_ ≠ ((.slice Ao10 t431.length co10) : Value).ownBlock ∧ some k_ ≠ ((.slice Ao65 t466.length co65) : Value).ownBlock) (.slice Ao71 t472.length co71) t472) ∧ Aside0 (w'.heap[gb438]? = some (.cells #[(.slice Ao10 t431.length co10), .int .i64 t434] 26 (0, 0))) ∧ Aside0 (w'.heap[gb471]? = some (.cells #[(.slice Ao65 t466.length co65), .int .i64 t469] 26 (0, 0))) ∧ Aside0 (w'.heap[gb477]? = some (.cells #[(.slice Ao71 t472.length co71), .int .i64 t475] 26 (0, 0))) ∧ Aside0 (Below w.heap.size w w'))
                         case atStart => exact ⟨(true), (0), (by first | rfl | (simp; done) | (simp [*]; done)), (by first | rfl | (simp; done) | (simp [*]; done)), H', ⟨Nat.le_refl _⟩, ⟨xR HO_4.out⟩, ⟨xS HO_13.out⟩, ⟨xR HO_37.out⟩, ⟨xR HO_439000.out⟩, ⟨xR HO_472000.out⟩, ⟨xR HO_478000.out⟩, ⟨xB BK438.out⟩, ⟨xB BK471.out⟩, ⟨xB BK477.out⟩, ⟨xG3 HB.out GE438.out GE471.out GE477.out⟩⟩
                         case round =>
                          as_aux_lemma =>
                           clear H'
                           try clear c154; try clear c154b0
                           obtain ⟨x45_12, x46_12, rfl, rfl, HA, HK12, HO_4, HO_13, HO_37, HO_439000, HO_472000, HO_478000, BK438, BK471, BK477, HB⟩ := hrel
                           cases gk with
                           | zero => exact absurd HA.out (by simp [laws_FnVotes.l4])
                           | succ k12 =>
                            have H := HA.out
                            clear HA
                            simp only [laws_FnVotes.l4] at H
                            by_cases c156 : x46_12 < (t435.length : Int)
                            ·
                             rw [if_pos c156] at H
                             have c156b0 : decide (x46_12 < (t435.length : Int)) = true := decide_eq_true c156
                             clear c156
                             by_cases c157 : x45_12 = true
                             ·
                              subst c157
                              have H1 : (if 0 ≤ x44_11 then (if x44_11 < (t453.length : Int) then (if 0 ≤ x46_12 then ((laws_rHas.f k12 (rd_L3 t453 x44_11) (rd t435 x46_12)).bind fun t506 => (laws_FnVotes.l4 k12 t435 t439 t453 x37_9 x39_10 x40_11 x44_11 t506 (wrap64 (x46_12 + 1)) t466 t469)) else (none)) else (none)) else (none)) = some r := by rw [if_pos rfl] at H; exact H
                              clear H
                              have H := H1
                              clear H1
                              by_cases c158 : 0 ≤ x44_11
                              ·
                               rw [if_pos c158] at H
                               have c158b0 : decide (0 ≤ x44_11) = true := decide_eq_true c158
                               clear c158
                               by_cases c159 : x44_11 < (t453.length : Int)
                               ·
                                rw [if_pos c159] at H
                                have c159b0 : decide (x44_11 < (t453.length : Int)) = true := decide_eq_true c159
                                clear c159
                                by_cases c160 : 0 ≤ x46_12
                                ·
                                 rw [if_pos c160] at H
                                 have c160b0 : decide (0 ≤ x46_12) = true := decide_eq_true c160
                                 clear c160
                                 replace H := oB.mp H
                                 obtain ⟨t506, A1610, H⟩ := H
                                 replace H : (laws_FnVotes.l4 k12 t435 t439 t453 x37_9 x39_10 x40_11 x44_11 t506 (wrap64 (x46_12 + 1)) t466 t469) = some r := H
                                 have A161 := aM A1610
                                 clear A1610
                                 have H' := aM H
                                 clear H
                                 have p504 : 0 ≤ (x44_11 : Int) := of_decide_eq_true (by first | (with_reducible assumption) | assumption)
                                 have q504 : x44_11 < (t453.length : Int) := of_decide_eq_true (by first | (with_reducible assumption) | assumption)
                                 obtain ⟨ad504, A504_0, c504_0, e504, hx504_0, hl504_0, hi504_0⟩ := at_L3 (Kd.S_reads' HO_13.out).2.2 x44_11 p504 q504
                                 cases e504
                                 obtain ⟨ce504, hce504, hMe504, hcc504⟩ := Kd.S_get HO_13.out [] x44_11 p504 (by first | exact q504 | exact of_decide_eq_true (by first | (with_reducible assumption) | assumption) | (have e_ := (Kd.S_reads' HO_13.out).1; omega))
                                 obtain ⟨ve504_0, rfl, ge504_0⟩ := hMe504
                                 have hv504_0 := hcc504 0 _ rfl
                                 rw [Nat.add_zero, show ((Kd.slice 3 (Kd.int .i64))).sz = 1 from rfl, Nat.mul_one] at hv504_0
                                 replace hv504_0 := Option.some.inj (hv504_0.symm.trans hx504_0)
                                 rw [hv504_0] at ge504_0
                                 have HL504_0 := aM (show Kd.R (Kd.int .i64) 3 _ _ _ _ (rd_L3 t453 x44_11) from ge504_0)
                                 clear hv504_0 ge504_0
                                 clear hcc504 hce504
                                 have HR504_0 := aM hi504_0
                                 have HC504_0 := aM hl504_0
                                 clear hi504_0 hl504_0
                                 replace p504 := eq_true p504
                                 replace q504 := eq_true q504
                                 have p505 : 0 ≤ (x46_12 : Int) := of_decide_eq_true (by first | (with_reducible assumption) | assumption)
                                 have q505 : x46_12 < (t435.length : Int) := of_decide_eq_true (by first | (with_reducible assumption) | assumption)
                                 obtain ⟨ad505, e505, hx505_0⟩ := Kd.at_int (Kd.R_reads' HO_4.out).2.2 x46_12 p505 q505
                                 cases e505
                                 replace p505 := eq_true p505
                                 replace q505 := eq_true q505
                                 go_wp2_with (first | (go_at_call 23; (with_reducible refine (laws_rHas.calls k12 _ _ (rd_L3 t453 x44_11) (rd t435 x46_12) t506 _ ?side1 ?side2 A161.out).mono ?_); (case side1 => repeat (first | exact (by repeat (first | (with_reducible exact HR504_0.out) | (with_reducible refine Kd.C_alloc ?_ _) | (with_reducible refine Kd.C_drewN ?_ _) | (with_reducible refine Kd.C_drew ?_) | exact HR504_0.out)) | (with_reducible refine Kd.C_alloc ?_ _) | (with_reducible refine Kd.C_drewN ?_ _) | (with_reducible refine Kd.C_drew ?_))); (case side2 => exact HC504_0.out); rintro e w' ⟨rfl, ⟨nd, rfl⟩⟩; (try first | exact ⟨rfl, _, World.drewN_drewN _ _ _⟩ | exact ⟨rfl, _, Eq.trans (World.drewN_drewN _ _ _) (congrArg (World.drewN _) (Nat.add_assoc _ _ _))⟩)))
                                 repeat (go_quiet (first | (go_at_call 23; (with_reducible refine (laws_rHas.calls k12 _ _ (rd_L3 t453 x44_11) (rd t435 x46_12) t506 _ ?side1 ?side2 A161.out).mono ?_); (case side1 => repeat (first | exact (by repeat (first | (with_reducible exact HR504_0.out) | (with_reducible refine Kd.C_alloc ?_ _) | (with_reducible refine Kd.C_drewN ?_ _) | (with_reducible refine Kd.C_drew ?_) | exact HR504_0.out)) | (with_reducible refine Kd.C_alloc ?_ _) | (with_reducible refine Kd.C_drewN ?_ _) | (with_reducible refine Kd.C_drew ?_))); (case side2 => exact HC504_0.out); rintro e w' ⟨rfl, ⟨nd, rfl⟩⟩; (try first | exact ⟨rfl, _, World.drewN_drewN _ _ _⟩ | exact ⟨rfl, _, Eq.trans (World.drewN_drewN _ _ _) (congrArg (World.drewN _) (Nat.add_assoc _ _ _))⟩))); try go_wp2_with (first | (go_at_call 23; (with_reducible refine (laws_rHas.calls k12 _ _ (rd_L3 t453 x44_11) (rd t435 x46_12) t506 _ ?side1 ?side2 A161.out).mono ?_); (case side1 => repeat (first | exact (by repeat (first | (with_reducible exact HR504_0.out) | (with_reducible refine Kd.C_alloc ?_ _) | (with_reducible refine Kd.C_drewN ?_ _) | (with_reducible refine Kd.C_drew ?_) | exact HR504_0.out)) | (with_reducible refine Kd.C_alloc ?_ _) | (with_reducible refine Kd.C_drewN ?_ _) | (with_reducible refine Kd.C_drew ?_))); (case side2 => exact HC504_0.out); rintro e w' ⟨rfl, ⟨nd, rfl⟩⟩; (try first | exact ⟨rfl, _, World.drewN_drewN _ _ _⟩ | exact ⟨rfl, _, Eq.trans (World.drewN_drewN _ _ _) (congrArg (World.drewN _) (Nat.add_assoc _ _ _))⟩))))
                                 go_roundg k12
                                 case measure => have := HJ6.out; have := HJ19.out; have := HJ37.out; have := HJ50.out; have := HJ60.out; have := HJ86.out; have := HJ98.out; have := HJ111.out; have := HK9.out; have := HK10.out; have := HK11.out; have := HK12.out; omega
                                 case rel => exact ⟨(t506), (wrap64 (x46_12 + 1)), (by first | rfl | (simp; done) | (simp [*]; done)), (by first | rfl | (simp; done) | (simp [*]; done)), H', ⟨by have := HJ6.out; have := HJ19.out; have := HJ37.out; have := HJ50.out; have := HJ60.out; have := HJ86.out; have := HJ98.out; have := HJ111.out; have := HK9.out; have := HK10.out; have := HK11.out; have := HK12.out; omega⟩, ⟨xR HO_4.out⟩, ⟨xS HO_13.out⟩, ⟨xR HO_37.out⟩, ⟨xR HO_439000.out⟩, ⟨xR HO_472000.out⟩, ⟨xR HO_478000.out⟩, ⟨xB BK438.out⟩, ⟨xB BK471.out⟩, ⟨xB BK477.out⟩, ⟨xG3 HB.out GE438.out GE471.out GE477.out⟩⟩
                                ·
                                 rw [if_neg c160] at H
                                 exact absurd H (by simp)
                               ·
                                rw [if_neg c159] at H
                                exact absurd H (by simp)
                              ·
                               rw [if_neg c158] at H
                               exact absurd H (by simp)
                             ·
                              replace c157 := Bool.eq_false_iff.mpr c157
                              subst c157
                              have H1 : (laws_FnVotes.l4 k12 t435 t439 t453 x37_9 x39_10 x40_11 x44_11 false (wrap64 (x46_12 + 1)) t466 t469) = some r := by rw [if_neg (show ¬ (false = true) by decide)] at H; exact H
                              clear H
                              have H := H1
                              clear H1
                              have H' := aM H
                              clear H
                              go_wp2
                              repeat (go_quiet (fail); try go_wp2)
                              go_roundg k12
                              case measure => have := HJ6.out; have := HJ19.out; have := HJ37.out; have := HJ50.out; have := HJ60.out; have := HJ86.out; have := HJ98.out; have := HJ111.out; have := HK9.out; have := HK10.out; have := HK11.out; have := HK12.out; omega
                              case rel => exact ⟨(false), (wrap64 (x46_12 + 1)), (by first | rfl | (simp; done) | (simp [*]; done)), (by first | rfl | (simp; done) | (simp [*]; done)), H', ⟨by have := HJ6.out; have := HJ19.out; have := HJ37.out; have := HJ50.out; have := HJ60.out; have := HJ86.out; have := HJ98.out; have := HJ111.out; have := HK9.out; have := HK10.out; have := HK11.out; have := HK12.out; omega⟩, ⟨xR HO_4.out⟩, ⟨xS HO_13.out⟩, ⟨xR HO_37.out⟩, ⟨xR HO_439000.out⟩, ⟨xR HO_472000.out⟩, ⟨xR HO_478000.out⟩, ⟨xB BK438.out⟩, ⟨xB BK471.out⟩, ⟨xB BK477.out⟩, ⟨xG3 HB.out GE438.out GE471.out GE477.out⟩⟩
                            ·
                             rw [if_neg c156] at H
                             have c156b0 : decide (x46_12 < (t435.length : Int)) = false := decide_eq_false c156
                             clear c156
                             by_cases c162 : x40_11 = true
                             ·
                              subst c162
                              have H1 : (laws_FnVotes.l3 k12 t435 t439 t453 x37_9 x39_10 true (wrap64 (x44_11 + 1)) t466 t469) = some r := by rw [if_pos rfl] at H; exact H
                              clear H
                              have H := H1
                              clear H1
                              have H' := aM H
                              clear H
                              go_wp2
                              repeat (go_quiet (fail); try go_wp2)
                              go_roundg k12
                              case measure => have := HJ6.out; have := HJ19.out; have := HJ37.out; have := HJ50.out; have := HJ60.out; have := HJ86.out; have := HJ98.out; have := HJ111.out; have := HK9.out; have := HK10.out; have := HK11.out; have := HK12.out; omega
                              case rel => exact ⟨(true), (wrap64 (x44_11 + 1)), (by first | rfl | (simp; done) | (simp [*]; done)), (by first | rfl | (simp; done) | (simp [*]; done)), H', ⟨by have := HJ6.out; have := HJ19.out; have := HJ37.out; have := HJ50.out; have := HJ60.out; have := HJ86.out; have := HJ98.out; have := HJ111.out; have := HK9.out; have := HK10.out; have := HK11.out; have := HK12.out; omega⟩, ⟨xR HO_4.out⟩, ⟨xS HO_13.out⟩, ⟨xR HO_37.out⟩, ⟨xR HO_439000.out⟩, ⟨xR HO_472000.out⟩, ⟨xR HO_478000.out⟩, ⟨xB BK438.out⟩, ⟨xB BK471.out⟩, ⟨xB BK477.out⟩, ⟨xG3 HB.out GE438.out GE471.out GE477.out⟩⟩
                             ·
                              replace c162 := Bool.eq_false_iff.mpr c162
                              subst c162
                              have H1 : (laws_FnVotes.l3 k12 t435 t439 t453 x37_9 x39_10 x45_12 (wrap64 (x44_11 + 1)) t466 t469) = some r := by rw [if_neg (show ¬ (false = true) by decide)] at H; exact H
                              clear H
                              have H := H1
                              clear H1
                              have H' := aM H
                              clear H
                              go_wp2
                              repeat (go_quiet (fail); try go_wp2)
                              go_roundg k12
                              case measure => have := HJ6.out; have := HJ19.out; have := HJ37.out; have := HJ50.out; have := HJ60.out; have := HJ86.out; have := HJ98.out; have := HJ111.out; have := HK9.out; have := HK10.out; have := HK11.out; have := HK12.out; omega
                              case rel => exact ⟨(x45_12), (wrap64 (x44_11 + 1)), (by first | rfl | (simp; done) | (simp [*]; done)), (by first | rfl | (simp; done) | (simp [*]; done)), H', ⟨by have := HJ6.out; have := HJ19.out; have := HJ37.out; have := HJ50.out; have := HJ60.out; have := HJ86.out; have := HJ98.out; have := HJ111.out; have := HK9.out; have := HK10.out; have := HK11.out; have := HK12.out; omega⟩, ⟨xR HO_4.out⟩, ⟨xS HO_13.out⟩, ⟨xR HO_37.out⟩, ⟨xR HO_439000.out⟩, ⟨xR HO_472000.out⟩, ⟨xR HO_478000.out⟩, ⟨xB BK438.out⟩, ⟨xB BK471.out⟩, ⟨xB BK477.out⟩, ⟨xG3 HB.out GE438.out GE471.out GE477.out⟩⟩
                        ·
                         rw [if_neg c154] at H
                         have c154b0 : decide (x44_11 < (t453.length : Int)) = false := decide_eq_false c154
                         clear c154
                         replace H := oB.mp H
                         obtain ⟨⟨t502, t503⟩, A1630, H⟩ := H
                         replace H : (if t503 = true then (if (t439 == x39_10) = true then (if (t439 != x40_11) = true then (some (t439 == (!t502))) else (none)) else (none)) else (none)) = some r := H
                         have A163 := aM A1630
                         clear A1630
                         by_cases c164 : t503 = true
                         ·
                          subst c164
                          have H1 : (if (t439 == x39_10) = true then (if (t439 != x40_11) = true then (some (t439 == (!t502))) else (none)) else (none)) = some r := by rw [if_pos rfl] at H; exact H
                          clear H
                          have H := H1
                          clear H1
                          by_cases c165 : (t439 == x39_10) = true
                          ·
                           rw [if_pos c165] at H
                           have c165b0 : (t439 == x39_10) = true := c165
                           (try (have c165b1 : decide (t439 = x39_10) = true := by simpa using c165))
                           (try (have c165b2 : (t439 == x39_10) = true := by simpa using c165))
                           clear c165
                           by_cases c166 : (t439 != x40_11) = true
                           ·
                            rw [if_pos c166] at H
                            have c166b0 : (t439 != x40_11) = true := c166
                            (try (have c166b1 : decide (t439 = x40_11) = false := by simpa using c166))
                            (try (have c166b2 : (t439 == x40_11) = false := by simpa using c166))
                            (try (have c166b3 : ¬ (t439 = x40_11) := by simpa using c166))
                            clear c166
                            obtain rfl := Option.some.inj H
                            obtain ⟨Ao167, co167, eo167⟩ := Kd.S_slice HO_13.out
                            subst eo167
                            have hnb168 := NB471_438.out
                            have hnc168 := NB438_471.out
                            have hnb169 := NB471_477.out
                            have hnc169 := NB477_471.out
                            have hcz170_0 : wr.cell? ⟨gb471, 0, none⟩ = some (.slice Ao65 t466.length co65) := (bC BK471.out 0).trans rfl
                            have hcz170_1 : wr.cell? ⟨gb471, 1, none⟩ = some (.int .i64 t469) := (bC BK471.out 1).trans rfl
                            have hfz170_0 := bF BK471.out 0
                            have hfz170_1 := bF BK471.out 1
                            obtain ⟨Ao171, co171, eo171⟩ := Kd.R_slice HO_37.out
                            subst eo171
                            go_wp2_with (first | (go_at_call 6; (with_reducible refine (impl_WinsWith.calls k11 _ _ t466 t469 _ _ x37_9 t502 true _ ?side1 ?side2 ?side3 ?side4 A163.out).mono ?_); (case side1 => exact xC (Kd.R_reads' HO_472000.out).2.2); (case side2 => exact (Kd.R_reads' HO_472000.out).2.1); (case side3 => exact xC (Kd.R_reads' HO_37.out).2.2); (case side4 => exact (Kd.R_reads' HO_37.out).2.1); rintro e w172 ⟨rfl, hb⟩; replace HO_4 := aM (Kd.R_below (xR HO_4.out) hb); replace HO_13 := aM (Kd.S_below (xS HO_13.out) hb); replace HO_37 := aM (Kd.R_below (xR HO_37.out) hb); replace HO_439000 := aM (Kd.R_below (xR HO_439000.out) hb); replace HO_472000 := aM (Kd.R_below (xR HO_472000.out) hb); replace HO_478000 := aM (Kd.R_below (xR HO_478000.out) hb); replace BK438 := aM (bB (g := gb438) (o := .cells #[.slice Ao10 t431.length co10, .int .i64 t434] 26 (0, 0)) (xB BK438.out) hb); replace BK471 := aM (bB (g := gb471) (o := .cells #[.slice Ao65 t466.length co65, .int .i64 t469] 26 (0, 0)) (xB BK471.out) hb); replace BK477 := aM (bB (g := gb477) (o := .cells #[.slice Ao71 t472.length co71, .int .i64 t475] 26 (0, 0)) (xB BK477.out) hb); replace HB := aM (below_step (xG3 HB.out GE438.out GE471.out GE477.out) hb); (try clear hb; try clear hk; try clear hi)))
                            repeat (go_quiet (first | (go_at_call 6; (with_reducible refine (impl_WinsWith.calls k11 _ _ t466 t469 _ _ x37_9 t502 true _ ?side1 ?side2 ?side3 ?side4 A163.out).mono ?_); (case side1 => exact xC (Kd.R_reads' HO_472000.out).2.2); (case side2 => exact (Kd.R_reads' HO_472000.out).2.1); (case side3 => exact xC (Kd.R_reads' HO_37.out).2.2); (case side4 => exact (Kd.R_reads' HO_37.out).2.1); rintro e w172 ⟨rfl, hb⟩; replace HO_4 := aM (Kd.R_below (xR HO_4.out) hb); replace HO_13 := aM (Kd.S_below (xS HO_13.out) hb); replace HO_37 := aM (Kd.R_below (xR HO_37.out) hb); replace HO_439000 := aM (Kd.R_below (xR HO_439000.out) hb); replace HO_472000 := aM (Kd.R_below (xR HO_472000.out) hb); replace HO_478000 := aM (Kd.R_below (xR HO_478000.out) hb); replace BK438 := aM (bB (g := gb438) (o := .cells #[.slice Ao10 t431.length co10, .int .i64 t434] 26 (0, 0)) (xB BK438.out) hb); replace BK471 := aM (bB (g := gb471) (o := .cells #[.slice Ao65 t466.length co65, .int .i64 t469] 26 (0, 0)) (xB BK471.out) hb); replace BK477 := aM (bB (g := gb477) (o := .cells #[.slice Ao71 t472.length co71, .int .i64 t475] 26 (0, 0)) (xB BK477.out) hb); replace HB := aM (below_step (xG3 HB.out GE438.out GE471.out GE477.out) hb); (try clear hb; try clear hk; try clear hi))); try go_wp2_with (first | (go_at_call 6; (with_reducible refine (impl_WinsWith.calls k11 _ _ t466 t469 _ _ x37_9 t502 true _ ?side1 ?side2 ?side3 ?side4 A163.out).mono ?_); (case side1 => exact xC (Kd.R_reads' HO_472000.out).2.2); (case side2 => exact (Kd.R_reads' HO_472000.out).2.1); (case side3 => exact xC (Kd.R_reads' HO_37.out).2.2); (case side4 => exact (Kd.R_reads' HO_37.out).2.1); rintro e w172 ⟨rfl, hb⟩; replace HO_4 := aM (Kd.R_below (xR HO_4.out) hb); replace HO_13 := aM (Kd.S_below (xS HO_13.out) hb); replace HO_37 := aM (Kd.R_below (xR HO_37.out) hb); replace HO_439000 := aM (Kd.R_below (xR HO_439000.out) hb); replace HO_472000 := aM (Kd.R_below (xR HO_472000.out) hb); replace HO_478000 := aM (Kd.R_below (xR HO_478000.out) hb); replace BK438 := aM (bB (g := gb438) (o := .cells #[.slice Ao10 t431.length co10, .int .i64 t434] 26 (0, 0)) (xB BK438.out) hb); replace BK471 := aM (bB (g := gb471) (o := .cells #[.slice Ao65 t466.length co65, .int .i64 t469] 26 (0, 0)) (xB BK471.out) hb); replace BK477 := aM (bB (g := gb477) (o := .cells #[.slice Ao71 t472.length co71, .int .i64 t475] 26 (0, 0)) (xB BK477.out) hb); replace HB := aM (below_step (xG3 HB.out GE438.out GE471.out GE477.out) hb); (try clear hb; try clear hk; try clear hi))))
                            go_ret
                            exact ⟨by first | rfl | (simp [errW_none, errW_some] <;> rfl) | (simp [*, errW_none, errW_some] <;> rfl), xG3 HB.out GE438.out GE471.out GE477.out⟩
                           ·
                            rw [if_neg c166] at H
                            exact absurd H (by simp)
                          ·
                           rw [if_neg c165] at H
                           exact absurd H (by simp)
                         ·
                          replace c164 := Bool.eq_false_iff.mpr c164
                          subst c164
                          have H1 : (none) = some r := by rw [if_neg (show ¬ (false = true) by decide)] at H; exact H
                          clear H
                          have H := H1
                          clear H1
                          exact absurd H (by simp)
            ·
             replace c127 := Bool.eq_false_iff.mpr c127
             subst c127
             have H1 : (some true) = some r := by rw [if_neg (show ¬ (false = true) by decide)] at H; exact H
             clear H
             have H := H1
             clear H1
             obtain rfl := Option.some.inj H
             go_wp2
             repeat (go_quiet (fail); try go_wp2)
             go_ret
             exact ⟨by first | rfl | (simp [errW_none, errW_some] <;> rfl) | (simp [*, errW_none, errW_some] <;> rfl), xG3 HB.out GE438.out GE471.out GE477.out⟩
       ·
        replace c109 := Bool.eq_false_iff.mpr c109
        subst c109
        have H1 : (some (!t440)) = some r := by rw [if_neg (show ¬ (false = true) by decide)] at H; exact H
        clear H
        have H := H1
        clear H1
        obtain rfl := Option.some.inj H
        go_wp2
        repeat (go_quiet (fail); try go_wp2)
        go_ret
        exact ⟨by first | rfl | (simp [errW_none, errW_some] <;> rfl) | (simp [*, errW_none, errW_some] <;> rfl), xG3 HB.out GE438.out GE471.out GE477.out⟩
theorem laws_FnVotes.calls (k : Nat) (A0 : Option Addr) (c0 : Nat) (l0 : List Int) (r : Bool) (w : World) (hr0 : Kd.C (Kd.int .u8) w A0 l0.length l0) (hc0 : l0.length ≤ c0) (h : laws_FnVotes.f k l0 = some r) (hTG_ : 1 < w.heap.size) (hTT_ : Go.Proofs.TabAt 1 Lib.deBruijn64tab w) :
  Calls Tryd.prog 3 #[.slice A0 l0.length c0] w fun e w' => e = .returned (.bool r) ∧ Below w.heap.size w w' := laws_FnVotes.half ⟨laws_FnVotes.rest⟩ k A0 c0 l0 r w hr0 hc0 h hTG_ hTT_
end Go.Proofs.YtkgekmpnbhomgaaDoor.PFnVotes
