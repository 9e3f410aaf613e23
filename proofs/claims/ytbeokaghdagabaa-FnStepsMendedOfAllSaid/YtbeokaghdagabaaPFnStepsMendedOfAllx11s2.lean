-- Written by wip/gen/mp.py of this repo (the kit's printer with our own parts): functions and their contracts.
import Derived.Test.YtbeokaghdagabaaPFnStepsMendedOfAllx11d
namespace Go.Proofs.Ytbeokaghdagabaa.PFnStepsMendedOfAll
open Go.RowKit Go.Proofs.YtbeokaghdagabaaW.PrintWords Go.Proofs.YtbeokaghdagabaaW.PrintLast Go.Proofs.YtbeokaghdagabaaW.PrintMore
attribute [local go_sem] yielded_undef max2_int min2_int max_two min_two max_three min_three max_four min_four   -- for this text's walks alone
set_option linter.unusedVariables false
set_option linter.unusedSimpArgs false

/-! ### laws_FnStepsMendedOfAll: function 5 -/
set_option maxHeartbeats 8000000 in
set_option maxRecDepth 100000 in
theorem laws_FnStepsMendedOfAll.stage2 (k : Nat) (A0 : Option Addr) (c0 : Nat) (l0 : List Int) (a1 a2 : Int) (A3 : Option Addr) (c3 : Nat) (l3 : List Int) (a4 : Int) (A5 : Option Addr) (c5 : Nat) (l5 : List Int) (a6 : Int) (r : Bool) (w : World) (u69 u70 u71 u72 u73 u74 u75 u76 u77 u78 u79 u80 : Value) (kj7 : Nat) (t364 : Bool) (t368 : Bool) (t371 : Int) (t372 : Bool) (t373 : Int) (t374 : Bool) (v365 : Value) (v369 : Value) (u110 u111 u112 u113 u114 u115 u116 u117 u118 u119 u120 u121 u122 u123 u124 u125 u126 u127 u128 u129 u130 u131 u132 : Value) (kj15 : Nat) (u23 u24 u25 u26 u27 u28 u29 u30 u134 u135 u136 u137 u138 u139 u140 u141 u142 u143 u144 u145 u146 u147 u148 u149 u150 u151 u152 u153 u154 u155 u156 u157 u158 u159 u160 u161 u162 u163 u164 u165 u166 u167 u168 u169 u170 u171 u172 u173 u174 u175 u176 u177 u178 u179 u180 u181 u182 u183 u184 u185 u186 u187 u188 u189 u190 u191 u192 u193 u194 u195 u196 u197 u198 u199 u200 u201 u202 u203 u204 u205 u206 u207 u208 u209 u210 u211 u212 u213 u214 u215 u216 u217 u218 u219 u220 u221 u222 u223 : Value) (kj34 : Nat) (t388 : List Int) (t389 : Bool) (t393 : Bool) (t396 t397 : Int) (t398 : Bool) (t399 t400 : Int) (t401 : Bool) (t402 : List Int) (t403 : Bool) (t407 : Bool) (t410 : Int) (t411 : Bool) (t412 : Int) (t413 : Bool) (t414 : Int) (t415 : Bool) (t416 : Int) (t417 : Bool) (t418 : Int) (t419 : Bool) (t420 : Int) (t421 : Bool) (v390 : Value) (v394 : Value) (v404 : Value) (v408 : Value) (u298 u299 u300 u301 u302 u303 u304 u305 u306 u307 u308 u309 u310 u311 u312 u313 u314 u315 u316 u317 u318 u319 u320 u321 u322 u323 u324 u325 u326 u327 u328 u329 u330 u331 u332 u333 u334 u335 u336 u337 u338 u339 u340 u341 u342 u343 u344 u345 u346 u347 u348 u349 u350 u351 u352 u353 u354 u355 u356 u357 u358 u359 u360 u361 u362 u363 u364 u365 u366 u367 u368 u369 u370 u371 u372 u373 u374 u375 u376 u377 u378 u379 u380 : Value) (kj80 : Nat) (wc : World) (u14 u57 u58 u59 u60 u61 u62 u382 u383 u384 u385 u386 u387 u388 u389 u390 u391 u392 u393 u394 u395 u396 u397 u398 u399 u400 u401 u402 u403 u404 u405 u406 u407 u408 u409 u410 u411 u412 u413 u414 u415 u416 u417 u418 u419 u420 u421 u422 u423 u424 u425 u426 u427 u428 u429 u430 u431 u432 u433 u434 u435 u436 u437 u438 u439 u440 u441 u442 u443 u444 u445 u446 u447 u448 u449 u450 u451 u452 u453 u454 u455 u456 u457 u458 u459 u460 u461 u462 u463 : Value) (HR3 : Aside0 ((Kd.int IntKind.i64).C w A3 l3.length l3)) (HC3 : Aside0 (l3.length ≤ c3)) (HR5 : Aside0 ((Kd.int IntKind.i64).C w A5 l5.length l5)) (HC5 : Aside0 (l5.length ≤ c5)) (HJ7 : Aside0 (kj7 + 1 ≤ k)) (HJ15 : Aside0 (kj15 + 1 ≤ kj7)) (HJ34 : Aside0 (kj34 + 1 ≤ kj15)) (HJ80 : Aside0 (kj80 + 1 ≤ kj34)) (HC167 : Aside0 ((if t389 = true then (impl_MostWears.f kj80 l3 a4).bind fun (bt424 : Int × Bool) => if bt424.snd = true then (laws_wRises.f kj80 t388).bind fun (t426 : Bool) => if t426 = true then if t397 > bt424.fst then j7 kj80 l3 a4 l5 a6 t388 t396 t397 t402 t403 t410 t418 t419 bt424.fst true else j7 kj80 l3 a4 l5 a6 t388 t396 t397 t402 t403 t410 t418 t419 bt424.fst (t403 != decide (bt424.fst > 0)) else j7 kj80 l3 a4 l5 a6 t388 t396 t397 t402 t403 t410 t418 t419 bt424.fst true else j7 kj80 l3 a4 l5 a6 t388 t396 t397 t402 t403 t410 t418 t419 bt424.fst true else j9 kj80 l3 a4 l5 a6 t402 t403 t410 t418 t419) = some r)) (hcut : ∃ (kq : Nat), ∃ (x41_166 : List Int), Aside0 (j9 kq l3 a4 l5 a6 x41_166 t403 t410 t418 t419 = some r) ∧ Aside0 (kq ≤ kj80) ∧ Aside0 ((Kd.int IntKind.i64).R 3 wc w.heap.size (fun (x : Nat) => True) v404 x41_166) ∧ Aside0 (Below w.heap.size w wc)) : Code.wp Try.prog (second_ (second_ (second_ (second_ (second_ (second_ (second_ (second_ (second_ (second_ (second_ (second_ (second_ (second_ (second_ (second_ (second_ (second_ (second_ (second_ (second_ (second_ (body_ Try.f5))))))))))))))))))))))) (bodyPost Try.prog Try.f5 (fun e w' => e = .returned (.bool r) ∧ Below w.heap.size w w')) { tmps := #[Value.slice A0 l0.length c0, Value.int IntKind.i64 a1, Value.int IntKind.i64 a2, Value.slice A3 l3.length c3, Value.int IntKind.i64 a4, Value.slice A5 l5.length c5, Value.int IntKind.i64 a6, undef, undef, undef, undef, undef, undef, undef, u14, v365, Value.bool t364, v369, Value.bool t368, Value.int IntKind.i64 t371, Value.bool t372, Value.int IntKind.i64 t373, Value.bool t374, u23, u24, u25, u26, u27, u28, u29, u30, v390, Value.bool t389, v394, Value.bool t393, Value.int IntKind.i64 t396, Value.int IntKind.i64 t397, Value.bool t398, Value.int IntKind.i64 t399, Value.int IntKind.i64 t400, Value.bool t401, v404, Value.bool t403, v408, Value.bool t407, Value.int IntKind.i64 t410, Value.bool t411, Value.int IntKind.i64 t412, Value.bool t413, Value.int IntKind.i64 t414, Value.bool t415, Value.int IntKind.i64 t416, Value.bool t417, Value.int IntKind.i64 t418, Value.bool t419, Value.int IntKind.i64 t420, Value.bool t421, u57, u58, u59, u60, u61, u62, undef, undef, undef, undef, undef, undef, u69, u70, u71, u72, u73, u74, u75, u76, u77, u78, u79, u80, Value.bool false, Value.tuple #[v365, Value.bool t364], Value.slice A0 l0.length c0, Value.int IntKind.i64 a1, Value.int IntKind.i64 a2, Value.tuple #[v365, Value.bool t364], v365, Value.bool t364, Value.tuple #[v369, Value.bool t368], Value.slice A0 l0.length c0, Value.int IntKind.i64 a1, Value.int IntKind.i64 a2, Value.tuple #[v369, Value.bool t368], v369, Value.bool t368, Value.tuple #[Value.int IntKind.i64 t371, Value.bool t372], Value.slice A0 l0.length c0, Value.int IntKind.i64 a1, Value.int IntKind.i64 a2, Value.tuple #[Value.int IntKind.i64 t371, Value.bool t372], Value.int IntKind.i64 t371, Value.bool t372, Value.tuple #[Value.int IntKind.i64 t373, Value.bool t374], Value.slice A0 l0.length c0, Value.int IntKind.i64 a1, Value.int IntKind.i64 a2, Value.tuple #[Value.int IntKind.i64 t373, Value.bool t374], Value.int IntKind.i64 t373, Value.bool t374, u110, u111, u112, u113, u114, u115, u116, u117, u118, u119, u120, u121, u122, u123, u124, u125, u126, u127, u128, u129, u130, u131, u132, Value.bool false, u134, u135, u136, u137, u138, u139, u140, u141, u142, u143, u144, u145, u146, u147, u148, u149, u150, u151, u152, u153, u154, u155, u156, u157, u158, u159, u160, u161, u162, u163, u164, u165, u166, u167, u168, u169, u170, u171, u172, u173, u174, u175, u176, u177, u178, u179, u180, u181, u182, u183, u184, u185, u186, u187, u188, u189, u190, u191, u192, u193, u194, u195, u196, u197, u198, u199, u200, u201, u202, u203, u204, u205, u206, u207, u208, u209, u210, u211, u212, u213, u214, u215, u216, u217, u218, u219, u220, u221, u222, u223, Value.tuple #[v390, Value.bool t389], Value.slice A3 l3.length c3, Value.int IntKind.i64 a4, Value.tuple #[v390, Value.bool t389], v390, Value.bool t389, Value.tuple #[v394, Value.bool t393], Value.slice A3 l3.length c3, Value.int IntKind.i64 a4, Value.tuple #[v394, Value.bool t393], v394, Value.bool t393, Value.tuple #[Value.int IntKind.i64 t396, Value.int IntKind.i64 t397, Value.bool t398], Value.slice A3 l3.length c3, Value.int IntKind.i64 a4, Value.tuple #[Value.int IntKind.i64 t396, Value.int IntKind.i64 t397, Value.bool t398], Value.int IntKind.i64 t396, Value.int IntKind.i64 t397, Value.bool t398, Value.tuple #[Value.int IntKind.i64 t399, Value.int IntKind.i64 t400, Value.bool t401], Value.slice A3 l3.length c3, Value.int IntKind.i64 a4, Value.tuple #[Value.int IntKind.i64 t399, Value.int IntKind.i64 t400, Value.bool t401], Value.int IntKind.i64 t399, Value.int IntKind.i64 t400, Value.bool t401, Value.tuple #[v404, Value.bool t403], Value.slice A3 l3.length c3, Value.int IntKind.i64 a4, Value.tuple #[v404, Value.bool t403], v404, Value.bool t403, Value.tuple #[v408, Value.bool t407], Value.slice A3 l3.length c3, Value.int IntKind.i64 a4, Value.tuple #[v408, Value.bool t407], v408, Value.bool t407, Value.tuple #[Value.int IntKind.i64 t410, Value.bool t411], Value.slice A3 l3.length c3, Value.int IntKind.i64 a4, Value.tuple #[Value.int IntKind.i64 t410, Value.bool t411], Value.int IntKind.i64 t410, Value.bool t411, Value.tuple #[Value.int IntKind.i64 t412, Value.bool t413], Value.slice A3 l3.length c3, Value.int IntKind.i64 a4, Value.tuple #[Value.int IntKind.i64 t412, Value.bool t413], Value.int IntKind.i64 t412, Value.bool t413, Value.tuple #[Value.int IntKind.i64 t414, Value.bool t415], Value.slice A3 l3.length c3, Value.int IntKind.i64 a4, Value.tuple #[Value.int IntKind.i64 t414, Value.bool t415], Value.int IntKind.i64 t414, Value.bool t415, Value.tuple #[Value.int IntKind.i64 t416, Value.bool t417], Value.slice A3 l3.length c3, Value.int IntKind.i64 a4, Value.tuple #[Value.int IntKind.i64 t416, Value.bool t417], Value.int IntKind.i64 t416, Value.bool t417, Value.tuple #[Value.int IntKind.i64 t418, Value.bool t419], Value.slice A5 l5.length c5, Value.int IntKind.i64 a6, Value.tuple #[Value.int IntKind.i64 t418, Value.bool t419], Value.int IntKind.i64 t418, Value.bool t419, Value.tuple #[Value.int IntKind.i64 t420, Value.bool t421], Value.slice A5 l5.length c5, Value.int IntKind.i64 a6, Value.tuple #[Value.int IntKind.i64 t420, Value.bool t421], Value.int IntKind.i64 t420, Value.bool t421, u298, u299, u300, u301, u302, u303, u304, u305, u306, u307, u308, u309, u310, u311, u312, u313, u314, u315, u316, u317, u318, u319, u320, u321, u322, u323, u324, u325, u326, u327, u328, u329, u330, u331, u332, u333, u334, u335, u336, u337, u338, u339, u340, u341, u342, u343, u344, u345, u346, u347, u348, u349, u350, u351, u352, u353, u354, u355, u356, u357, u358, u359, u360, u361, u362, u363, u364, u365, u366, u367, u368, u369, u370, u371, u372, u373, u374, u375, u376, u377, u378, u379, u380, Value.bool false, u382, u383, u384, u385, u386, u387, u388, u389, u390, u391, u392, u393, u394, u395, u396, u397, u398, u399, u400, u401, u402, u403, u404, u405, u406, u407, u408, u409, u410, u411, u412, u413, u414, u415, u416, u417, u418, u419, u420, u421, u422, u423, u424, u425, u426, u427, u428, u429, u430, u431, u432, u433, u434, u435, u436, u437, u438, u439, u440, u441, u442, u443, u444, u445, u446, u447, u448, u449, u450, u451, u452, u453, u454, u455, u456, u457, u458, u459, u460, u461, u462, u463, undef, undef, undef, undef, undef, undef, undef, undef, undef, undef, undef, undef, undef, undef, undef, undef, undef, undef, undef, undef, undef, undef, undef, undef, undef, undef, undef, undef, undef, undef, undef, undef, undef, undef, undef, undef, undef, undef, undef, undef, undef, undef, undef, undef, undef, undef, undef, undef, undef, undef, undef, undef, undef, undef, undef, undef, undef, undef, undef, undef, undef, undef, undef, undef, undef, undef, undef, undef, undef, undef, undef, undef, undef, undef, undef, undef, undef], defers := [] } wc := by
 dsimp only [second_, body_, Try.f5]
 clear HC167
 (try clear p1); (try clear q1); (try clear hx1); (try clear c16); (try clear c17); (try clear p18); (try clear q18); (try clear hx18); (try clear hf18); (try clear c22); (try clear c166); (try clear c168); (try clear c172); (try clear c174); (try clear c175); (try clear c175b0); (try clear c179); (try clear c180); (try clear c180b0); (try clear c181); (try clear c182); (try clear c182b0); (try clear c183); (try clear c183b0); (try clear p184); (try clear q184); (try clear hx184); (try clear hf184); (try clear c186); (try clear c187); (try clear c187b0); (try clear c194); (try clear c194b0); (try clear c194b1); (try clear c195); (try clear c195b0); (try clear c202); (try clear c202b0); (try clear c202b1); (try clear c204); (try clear c204b0); (try clear c204b1); (try clear c204b2); (try clear c220); (try clear c220b0); (try clear c220b1); (try clear c220b2); (try clear c235); (try clear c235b0); (try clear c235b1); (try clear c243); (try clear c243b0); (try clear c243b1); (try clear c243b2); (try clear hx184_0)
 obtain ⟨kq, x41_166, HA, HJ166, HO_41, HB⟩ := hcut
 cases kq with
 | zero => exact absurd HA.out (by simp [laws_FnStepsMendedOfAll.j9])
 | succ kj166 =>
  have H := HA.out
  clear HA
  simp only [laws_FnStepsMendedOfAll.j9] at H
  have HC264 := Aside0.mk H
  clear H
  go_upto_if 464 with (fail)
  go_cut [] from 464 to 464 (fun wc => ∃ (kq : Nat), Aside0 (laws_FnStepsMendedOfAll.j10 kq l5 a6 t418 t419 = some r) ∧ Aside0 (kq ≤ kj166) ∧ Aside0 (Below w.heap.size w wc))
  case first =>
   have H := HC264.out
   clear HC264
   by_cases c265 : t403 = true
   ·subst c265
    have H1 : ((impl_IsWearClimb.f kj166 l3 a4 x41_166).bind fun bt439 => (if bt439.2 = true then (if bt439.1 = true then (if t410 > (x41_166.length : Int) then (some false) else (if t410 < 0 then (some false) else (if (wrap64 ((wrap64 (t410 + 1)) * a4)) < (wrap64 ((l3.length : Int) + 1)) then (some false) else (laws_FnStepsMendedOfAll.j10 kj166 l5 a6 t418 t419)))) else (some false)) else (some false))) = some r := by rw [if_pos rfl] at H; exact H
    clear H
    have H := H1
    clear H1
    replace H := Option.bind_eq_some_iff.mp H
    obtain ⟨⟨t439, t440⟩, A2660, H⟩ := H
    try dsimp only at H
    have A266 := Aside0.mk A2660
    clear A2660
    by_cases c267 : t440 = true
    ·subst c267
     have H1 : (if t439 = true then (if t410 > (x41_166.length : Int) then (some false) else (if t410 < 0 then (some false) else (if (wrap64 ((wrap64 (t410 + 1)) * a4)) < (wrap64 ((l3.length : Int) + 1)) then (some false) else (laws_FnStepsMendedOfAll.j10 kj166 l5 a6 t418 t419)))) else (some false)) = some r := by rw [if_pos rfl] at H; exact H
     clear H
     have H := H1
     clear H1
     by_cases c268 : t439 = true
     ·subst c268
      have H1 : (if t410 > (x41_166.length : Int) then (some false) else (if t410 < 0 then (some false) else (if (wrap64 ((wrap64 (t410 + 1)) * a4)) < (wrap64 ((l3.length : Int) + 1)) then (some false) else (laws_FnStepsMendedOfAll.j10 kj166 l5 a6 t418 t419)))) = some r := by rw [if_pos rfl] at H; exact H
      clear H
      have H := H1
      clear H1
      by_cases c269 : t410 > (x41_166.length : Int)
      ·rw [if_pos c269] at H
       have c269b0 : decide ((x41_166.length : Int) < t410) = true := decide_eq_true c269
       clear c269
       (first | rw [c269b0] | (simp only [i64_w, i32_w]; rw [c269b0]) | skip)
       obtain rfl := Option.some.inj H
       obtain ⟨Ao270, co270, eo270⟩ := Kd.R_slice HO_41.out
       subst eo270
       go_wp2_with (first | ((with_reducible refine gate_callee (f := 39) rfl ?_); refine goesL_ (some 469) rfl rfl Try.func39 (by kernel_rfl) rfl #[.slice A3 l3.length c3, .int .i64 a4, .slice Ao270 x41_166.length co270] rfl Zc ?_; (with_reducible refine (impl_IsWearClimb.calls kj166 _ _ l3 a4 _ _ x41_166 true true _ ?side1 ?side2 ?side3 ?side4 A266.out).mono ?_); (case side1 => exact CS (Kd.C_below HR3.out HB.out)); (case side2 => exact HC3.out); (case side3 => exact CS (Kd.R_reads' HO_41.out).2.2); (case side4 => exact (Kd.R_reads' HO_41.out).2.1); rintro e w' ⟨rfl, ⟨nd, rfl⟩⟩; refine ⟨_, rfl, ?_⟩))
       go_ret
       exact ⟨Zb, BS HB.out⟩
      ·rw [if_neg c269] at H
       have c269b0 : decide ((x41_166.length : Int) < t410) = false := decide_eq_false c269
       clear c269
       (first | rw [c269b0] | (simp only [i64_w, i32_w]; rw [c269b0]) | skip)
       by_cases c271 : t410 < 0
       ·rw [if_pos c271] at H
        have c271b0 : decide (t410 < 0) = true := decide_eq_true c271
        clear c271
        obtain rfl := Option.some.inj H
        obtain ⟨Ao272, co272, eo272⟩ := Kd.R_slice HO_41.out
        subst eo272
        go_wp2_with (first | ((with_reducible refine gate_callee (f := 39) rfl ?_); refine goesL_ (some 469) rfl rfl Try.func39 (by kernel_rfl) rfl #[.slice A3 l3.length c3, .int .i64 a4, .slice Ao272 x41_166.length co272] rfl Zc ?_; (with_reducible refine (impl_IsWearClimb.calls kj166 _ _ l3 a4 _ _ x41_166 true true _ ?side1 ?side2 ?side3 ?side4 A266.out).mono ?_); (case side1 => exact CS (Kd.C_below HR3.out HB.out)); (case side2 => exact HC3.out); (case side3 => exact CS (Kd.R_reads' HO_41.out).2.2); (case side4 => exact (Kd.R_reads' HO_41.out).2.1); rintro e w' ⟨rfl, ⟨nd, rfl⟩⟩; refine ⟨_, rfl, ?_⟩))
        go_ret
        exact ⟨Zb, BS HB.out⟩
       ·rw [if_neg c271] at H
        have c271b0 : decide (t410 < 0) = false := decide_eq_false c271
        clear c271
        by_cases c273 : (wrap64 ((wrap64 (t410 + 1)) * a4)) < (wrap64 ((l3.length : Int) + 1))
        ·rw [if_pos c273] at H
         have c273b0 : decide ((wrap64 ((wrap64 (t410 + 1)) * a4)) < (wrap64 ((l3.length : Int) + 1))) = true := decide_eq_true c273
         clear c273
         obtain rfl := Option.some.inj H
         obtain ⟨Ao274, co274, eo274⟩ := Kd.R_slice HO_41.out
         subst eo274
         go_wp2_with (first | ((with_reducible refine gate_callee (f := 39) rfl ?_); refine goesL_ (some 469) rfl rfl Try.func39 (by kernel_rfl) rfl #[.slice A3 l3.length c3, .int .i64 a4, .slice Ao274 x41_166.length co274] rfl Zc ?_; (with_reducible refine (impl_IsWearClimb.calls kj166 _ _ l3 a4 _ _ x41_166 true true _ ?side1 ?side2 ?side3 ?side4 A266.out).mono ?_); (case side1 => exact CS (Kd.C_below HR3.out HB.out)); (case side2 => exact HC3.out); (case side3 => exact CS (Kd.R_reads' HO_41.out).2.2); (case side4 => exact (Kd.R_reads' HO_41.out).2.1); rintro e w' ⟨rfl, ⟨nd, rfl⟩⟩; refine ⟨_, rfl, ?_⟩))
         go_ret
         exact ⟨Zb, BS HB.out⟩
        ·rw [if_neg c273] at H
         have c273b0 : decide ((wrap64 ((wrap64 (t410 + 1)) * a4)) < (wrap64 ((l3.length : Int) + 1))) = false := decide_eq_false c273
         clear c273
         have H' := Aside0.mk H
         clear H
         obtain ⟨Ao275, co275, eo275⟩ := Kd.R_slice HO_41.out
         subst eo275
         go_wp2_with (first | ((with_reducible refine gate_callee (f := 39) rfl ?_); refine goesL_ (some 469) rfl rfl Try.func39 (by kernel_rfl) rfl #[.slice A3 l3.length c3, .int .i64 a4, .slice Ao275 x41_166.length co275] rfl Zc ?_; (with_reducible refine (impl_IsWearClimb.calls kj166 _ _ l3 a4 _ _ x41_166 true true _ ?side1 ?side2 ?side3 ?side4 A266.out).mono ?_); (case side1 => exact CS (Kd.C_below HR3.out HB.out)); (case side2 => exact HC3.out); (case side3 => exact CS (Kd.R_reads' HO_41.out).2.2); (case side4 => exact (Kd.R_reads' HO_41.out).2.1); rintro e w' ⟨rfl, ⟨nd, rfl⟩⟩; refine ⟨_, rfl, ?_⟩))
         go_meet
         case rel => exact ⟨_, H', ⟨by have := HJ7.out; have := HJ15.out; have := HJ34.out; have := HJ80.out; have := HJ166.out; first | omega | exact Nat.le_refl _⟩, ⟨BS HB.out⟩⟩
     ·replace c268 := Bool.eq_false_iff.mpr c268
      subst c268
      have H1 : (some false) = some r := by rw [if_neg (show ¬ (false = true) by decide)] at H; exact H
      clear H
      have H := H1
      clear H1
      obtain rfl := Option.some.inj H
      obtain ⟨Ao276, co276, eo276⟩ := Kd.R_slice HO_41.out
      subst eo276
      go_wp2_with (first | ((with_reducible refine gate_callee (f := 39) rfl ?_); refine goesL_ (some 469) rfl rfl Try.func39 (by kernel_rfl) rfl #[.slice A3 l3.length c3, .int .i64 a4, .slice Ao276 x41_166.length co276] rfl Zc ?_; (with_reducible refine (impl_IsWearClimb.calls kj166 _ _ l3 a4 _ _ x41_166 false true _ ?side1 ?side2 ?side3 ?side4 A266.out).mono ?_); (case side1 => exact CS (Kd.C_below HR3.out HB.out)); (case side2 => exact HC3.out); (case side3 => exact CS (Kd.R_reads' HO_41.out).2.2); (case side4 => exact (Kd.R_reads' HO_41.out).2.1); rintro e w' ⟨rfl, ⟨nd, rfl⟩⟩; refine ⟨_, rfl, ?_⟩))
      go_ret
      exact ⟨Zb, BS HB.out⟩
    ·replace c267 := Bool.eq_false_iff.mpr c267
     subst c267
     have H1 : (some false) = some r := by rw [if_neg (show ¬ (false = true) by decide)] at H; exact H
     clear H
     have H := H1
     clear H1
     obtain rfl := Option.some.inj H
     obtain ⟨Ao277, co277, eo277⟩ := Kd.R_slice HO_41.out
     subst eo277
     go_wp2_with (first | ((with_reducible refine gate_callee (f := 39) rfl ?_); refine goesL_ (some 469) rfl rfl Try.func39 (by kernel_rfl) rfl #[.slice A3 l3.length c3, .int .i64 a4, .slice Ao277 x41_166.length co277] rfl Zc ?_; (with_reducible refine (impl_IsWearClimb.calls kj166 _ _ l3 a4 _ _ x41_166 t439 false _ ?side1 ?side2 ?side3 ?side4 A266.out).mono ?_); (case side1 => exact CS (Kd.C_below HR3.out HB.out)); (case side2 => exact HC3.out); (case side3 => exact CS (Kd.R_reads' HO_41.out).2.2); (case side4 => exact (Kd.R_reads' HO_41.out).2.1); rintro e w' ⟨rfl, ⟨nd, rfl⟩⟩; refine ⟨_, rfl, ?_⟩))
     go_ret
     exact ⟨Zb, BS HB.out⟩
   ·replace c265 := Bool.eq_false_iff.mpr c265
    subst c265
    have H1 : (laws_FnStepsMendedOfAll.j10 kj166 l5 a6 t418 t419) = some r := by rw [if_neg (show ¬ (false = true) by decide)] at H; exact H
    clear H
    have H := H1
    clear H1
    have H' := Aside0.mk H
    clear H
    go_wp2
    go_meet
    case rel => exact ⟨_, H', ⟨by have := HJ7.out; have := HJ15.out; have := HJ34.out; have := HJ80.out; have := HJ166.out; first | omega | exact Nat.le_refl _⟩, ⟨BS HB.out⟩⟩
  case rest =>
   clear HC264
   (try clear c39); (try clear c265); (try clear c267); (try clear c268); (try clear c269); (try clear c269b0); (try clear c271); (try clear c271b0); (try clear c273); (try clear c273b0)
   obtain ⟨kq, HA, HJ263, HB⟩ := hcut
   cases kq with
   | zero => exact absurd HA.out (by simp [laws_FnStepsMendedOfAll.j10])
   | succ kj263 =>
    have H := HA.out
    clear HA
    simp only [laws_FnStepsMendedOfAll.j10] at H
    by_cases c278 : t419 = true
    ·subst c278
     have H1 : (if t418 < 1 then (laws_FnStepsMendedOfAll.j11 kj263 l5 a6 t418 true) else (laws_FnStepsMendedOfAll.j11 kj263 l5 a6 t418 (decide (t418 > (wrap64 ((l5.length : Int) + 1)))))) = some r := by rw [if_pos rfl] at H; exact H
     clear H
     have H := H1
     clear H1
     have HC279 := Aside0.mk H
     clear H
     go_upto_region 64 with (fail)
     go_cut [507] from 507 to 507 (fun v507 wc => ∃ (kq : Nat) (x507_278 : Bool), v507 = .bool x507_278 ∧ Aside0 (laws_FnStepsMendedOfAll.j11 kq l5 a6 t418 x507_278 = some r) ∧ Aside0 (kq ≤ kj263) ∧ Aside0 (Below w.heap.size w wc))
     case first =>
      have H := HC279.out
      clear HC279
      by_cases c280 : t418 < 1
      ·rw [if_pos c280] at H
       have c280b0 : decide (t418 < 1) = true := decide_eq_true c280
       clear c280
       (first | rw [c280b0] | (simp only [i64_w, i32_w]; rw [c280b0]) | skip)
       have H' := Aside0.mk H
       clear H
       go_wp2
       go_meet
       case rel => exact ⟨_, (true), Za, H', ⟨by have := HJ7.out; have := HJ15.out; have := HJ34.out; have := HJ80.out; have := HJ166.out; have := HJ263.out; first | omega | exact Nat.le_refl _⟩, ⟨BS HB.out⟩⟩
      ·rw [if_neg c280] at H
       have c280b0 : decide (t418 < 1) = false := decide_eq_false c280
       clear c280
       (first | rw [c280b0] | (simp only [i64_w, i32_w]; rw [c280b0]) | skip)
       have H' := Aside0.mk H
       clear H
       go_wp2
       go_meet
       case rel => exact ⟨_, (decide (t418 > (wrap64 ((l5.length : Int) + 1)))), Za, H', ⟨by have := HJ7.out; have := HJ15.out; have := HJ34.out; have := HJ80.out; have := HJ166.out; have := HJ263.out; first | omega | exact Nat.le_refl _⟩, ⟨BS HB.out⟩⟩
     case rest =>
      clear HC279
      (try clear c278); (try clear c280); (try clear c280b0)
      obtain ⟨kq, x507_278, rfl, HA, HJ278, HB⟩ := hcut
      cases kq with
      | zero => exact absurd HA.out (by simp [laws_FnStepsMendedOfAll.j11])
      | succ kj278 =>
       have H := HA.out
       clear HA
       simp only [laws_FnStepsMendedOfAll.j11] at H
       by_cases c281 : x507_278 = true
       ·subst c281
        have H1 : (some false) = some r := by rw [if_pos rfl] at H; exact H
        clear H
        have H := H1
        clear H1
        obtain rfl := Option.some.inj H
        go_wp2
        go_ret
        exact ⟨Zb, BS HB.out⟩
       ·replace c281 := Bool.eq_false_iff.mpr c281
        subst c281
        have H1 : (if t418 ≤ (l5.length : Int) then ((impl_MostWears.f kj278 l5 t418).bind fun bt441 => (if bt441.2 = true then (if bt441.1 < a6 then (some false) else (laws_FnStepsMendedOfAll.j12 kj278 l5 a6 t418)) else (some false))) else (laws_FnStepsMendedOfAll.j12 kj278 l5 a6 t418)) = some r := by rw [if_neg (show ¬ (false = true) by decide)] at H; exact H
        clear H
        have H := H1
        clear H1
        have HC282 := Aside0.mk H
        clear H
        go_upto_if 511 with (fail)
        go_cut [] from 511 to 511 (fun wc => ∃ (kq : Nat), Aside0 (laws_FnStepsMendedOfAll.j12 kq l5 a6 t418 = some r) ∧ Aside0 (kq ≤ kj278) ∧ Aside0 (Below w.heap.size w wc))
        case first =>
         have H := HC282.out
         clear HC282
         by_cases c283 : t418 ≤ (l5.length : Int)
         ·rw [if_pos c283] at H
          have c283b0 : decide (t418 ≤ (l5.length : Int)) = true := decide_eq_true c283
          clear c283
          (first | rw [c283b0] | (simp only [i64_w, i32_w]; rw [c283b0]) | skip)
          replace H := Option.bind_eq_some_iff.mp H
          obtain ⟨⟨t441, t442⟩, A2840, H⟩ := H
          try dsimp only at H
          have A284 := Aside0.mk A2840
          clear A2840
          by_cases c285 : t442 = true
          ·subst c285
           have H1 : (if t441 < a6 then (some false) else (laws_FnStepsMendedOfAll.j12 kj278 l5 a6 t418)) = some r := by rw [if_pos rfl] at H; exact H
           clear H
           have H := H1
           clear H1
           by_cases c286 : t441 < a6
           ·rw [if_pos c286] at H
            have c286b0 : decide (t441 < a6) = true := decide_eq_true c286
            clear c286
            obtain rfl := Option.some.inj H
            go_wp2_with (first | ((with_reducible refine gate_callee (f := 23) rfl ?_); refine goesL_ (some 515) rfl rfl Try.func23 (by kernel_rfl) rfl #[.slice A5 l5.length c5, .int .i64 t418] rfl Zc ?_; (with_reducible refine (impl_MostWears.calls kj278 _ _ l5 t418 t441 true _ ?side1 ?side2 A284.out).mono ?_); (case side1 => exact CS (Kd.C_below HR5.out HB.out)); (case side2 => exact HC5.out); rintro e w287 ⟨rfl, hb⟩; refine ⟨_, rfl, ?_⟩; have n0_ := Aside0.mk (below_step (BS HB.out) hb); clear HB; have HB := n0_; clear n0_; (try clear hb); (try clear hb2); (try clear hk); (try clear hi)))
            go_ret
            exact ⟨Zb, BS HB.out⟩
           ·rw [if_neg c286] at H
            have c286b0 : decide (t441 < a6) = false := decide_eq_false c286
            clear c286
            have H' := Aside0.mk H
            clear H
            go_wp2_with (first | ((with_reducible refine gate_callee (f := 23) rfl ?_); refine goesL_ (some 515) rfl rfl Try.func23 (by kernel_rfl) rfl #[.slice A5 l5.length c5, .int .i64 t418] rfl Zc ?_; (with_reducible refine (impl_MostWears.calls kj278 _ _ l5 t418 t441 true _ ?side1 ?side2 A284.out).mono ?_); (case side1 => exact CS (Kd.C_below HR5.out HB.out)); (case side2 => exact HC5.out); rintro e w288 ⟨rfl, hb⟩; refine ⟨_, rfl, ?_⟩; have n0_ := Aside0.mk (below_step (BS HB.out) hb); clear HB; have HB := n0_; clear n0_; (try clear hb); (try clear hb2); (try clear hk); (try clear hi)))
            go_meet
            case rel => exact ⟨_, H', ⟨by have := HJ7.out; have := HJ15.out; have := HJ34.out; have := HJ80.out; have := HJ166.out; have := HJ263.out; have := HJ278.out; first | omega | exact Nat.le_refl _⟩, ⟨BS HB.out⟩⟩
          ·replace c285 := Bool.eq_false_iff.mpr c285
           subst c285
           have H1 : (some false) = some r := by rw [if_neg (show ¬ (false = true) by decide)] at H; exact H
           clear H
           have H := H1
           clear H1
           obtain rfl := Option.some.inj H
           go_wp2_with (first | ((with_reducible refine gate_callee (f := 23) rfl ?_); refine goesL_ (some 515) rfl rfl Try.func23 (by kernel_rfl) rfl #[.slice A5 l5.length c5, .int .i64 t418] rfl Zc ?_; (with_reducible refine (impl_MostWears.calls kj278 _ _ l5 t418 t441 false _ ?side1 ?side2 A284.out).mono ?_); (case side1 => exact CS (Kd.C_below HR5.out HB.out)); (case side2 => exact HC5.out); rintro e w289 ⟨rfl, hb⟩; refine ⟨_, rfl, ?_⟩; have n0_ := Aside0.mk (below_step (BS HB.out) hb); clear HB; have HB := n0_; clear n0_; (try clear hb); (try clear hb2); (try clear hk); (try clear hi)))
           go_ret
           exact ⟨Zb, BS HB.out⟩
         ·rw [if_neg c283] at H
          have c283b0 : decide (t418 ≤ (l5.length : Int)) = false := decide_eq_false c283
          clear c283
          (first | rw [c283b0] | (simp only [i64_w, i32_w]; rw [c283b0]) | skip)
          have H' := Aside0.mk H
          clear H
          go_wp2
          go_meet
          case rel => exact ⟨_, H', ⟨by have := HJ7.out; have := HJ15.out; have := HJ34.out; have := HJ80.out; have := HJ166.out; have := HJ263.out; have := HJ278.out; first | omega | exact Nat.le_refl _⟩, ⟨BS HB.out⟩⟩
        case rest =>
         clear HC282
         (try clear c281); (try clear c283); (try clear c283b0); (try clear c285); (try clear c286); (try clear c286b0)
         obtain ⟨kq, HA, HJ281, HB⟩ := hcut
         cases kq with
         | zero => exact absurd HA.out (by simp [laws_FnStepsMendedOfAll.j12])
         | succ kj281 =>
          have H := HA.out
          clear HA
          simp only [laws_FnStepsMendedOfAll.j12] at H
          by_cases c290 : t418 > 1
          ·rw [if_pos c290] at H
           have c290b0 : decide (1 < t418) = true := decide_eq_true c290
           clear c290
           replace H := Option.bind_eq_some_iff.mp H
           obtain ⟨⟨t443, t444⟩, A2910, H⟩ := H
           try dsimp only at H
           have A291 := Aside0.mk A2910
           clear A2910
           by_cases c292 : t444 = true
           ·subst c292
            have H1 : (if t443 ≥ a6 then (some false) else (some true)) = some r := by rw [if_pos rfl] at H; exact H
            clear H
            have H := H1
            clear H1
            by_cases c293 : t443 ≥ a6
            ·rw [if_pos c293] at H
             have c293b0 : decide (a6 ≤ t443) = true := decide_eq_true c293
             clear c293
             obtain rfl := Option.some.inj H
             go_wp2_with (first | ((with_reducible refine gate_callee (f := 23) rfl ?_); refine goesL_ (some 531) rfl rfl Try.func23 (by kernel_rfl) rfl #[.slice A5 l5.length c5, .int .i64 (wrap64 (t418 - 1))] rfl Zc ?_; (with_reducible refine (impl_MostWears.calls kj281 _ _ l5 (wrap64 (t418 - 1)) t443 true _ ?side1 ?side2 A291.out).mono ?_); (case side1 => exact CS (Kd.C_below HR5.out HB.out)); (case side2 => exact HC5.out); rintro e w294 ⟨rfl, hb⟩; refine ⟨_, rfl, ?_⟩; have n0_ := Aside0.mk (below_step (BS HB.out) hb); clear HB; have HB := n0_; clear n0_; (try clear hb); (try clear hb2); (try clear hk); (try clear hi)))
             go_ret
             exact ⟨Zb, BS HB.out⟩
            ·rw [if_neg c293] at H
             have c293b0 : decide (a6 ≤ t443) = false := decide_eq_false c293
             clear c293
             obtain rfl := Option.some.inj H
             go_wp2_with (first | ((with_reducible refine gate_callee (f := 23) rfl ?_); refine goesL_ (some 531) rfl rfl Try.func23 (by kernel_rfl) rfl #[.slice A5 l5.length c5, .int .i64 (wrap64 (t418 - 1))] rfl Zc ?_; (with_reducible refine (impl_MostWears.calls kj281 _ _ l5 (wrap64 (t418 - 1)) t443 true _ ?side1 ?side2 A291.out).mono ?_); (case side1 => exact CS (Kd.C_below HR5.out HB.out)); (case side2 => exact HC5.out); rintro e w295 ⟨rfl, hb⟩; refine ⟨_, rfl, ?_⟩; have n0_ := Aside0.mk (below_step (BS HB.out) hb); clear HB; have HB := n0_; clear n0_; (try clear hb); (try clear hb2); (try clear hk); (try clear hi)))
             go_ret
             exact ⟨Zb, BS HB.out⟩
           ·replace c292 := Bool.eq_false_iff.mpr c292
            subst c292
            have H1 : (some false) = some r := by rw [if_neg (show ¬ (false = true) by decide)] at H; exact H
            clear H
            have H := H1
            clear H1
            obtain rfl := Option.some.inj H
            go_wp2_with (first | ((with_reducible refine gate_callee (f := 23) rfl ?_); refine goesL_ (some 531) rfl rfl Try.func23 (by kernel_rfl) rfl #[.slice A5 l5.length c5, .int .i64 (wrap64 (t418 - 1))] rfl Zc ?_; (with_reducible refine (impl_MostWears.calls kj281 _ _ l5 (wrap64 (t418 - 1)) t443 false _ ?side1 ?side2 A291.out).mono ?_); (case side1 => exact CS (Kd.C_below HR5.out HB.out)); (case side2 => exact HC5.out); rintro e w296 ⟨rfl, hb⟩; refine ⟨_, rfl, ?_⟩; have n0_ := Aside0.mk (below_step (BS HB.out) hb); clear HB; have HB := n0_; clear n0_; (try clear hb); (try clear hb2); (try clear hk); (try clear hi)))
            go_ret
            exact ⟨Zb, BS HB.out⟩
          ·rw [if_neg c290] at H
           have c290b0 : decide (1 < t418) = false := decide_eq_false c290
           clear c290
           obtain rfl := Option.some.inj H
           go_wp2
           go_ret
           exact ⟨Zb, BS HB.out⟩
    ·replace c278 := Bool.eq_false_iff.mpr c278
     subst c278
     have H1 : (some true) = some r := by rw [if_neg (show ¬ (false = true) by decide)] at H; exact H
     clear H
     have H := H1
     clear H1
     obtain rfl := Option.some.inj H
     go_wp2
     go_ret
     exact ⟨Zb, BS HB.out⟩

end Go.Proofs.Ytbeokaghdagabaa.PFnStepsMendedOfAll
