-- Written by wip/gen/mp.py of this repo (the kit's printer with our own parts): functions and their contracts.
import Derived.Test.YtbeokaghdagabaaPFnStepsMendedOfAllx11s1
namespace Go.Proofs.Ytbeokaghdagabaa.PFnStepsMendedOfAll
open Go.RowKit Go.Proofs.YtbeokaghdagabaaW.PrintWords Go.Proofs.YtbeokaghdagabaaW.PrintLast Go.Proofs.YtbeokaghdagabaaW.PrintMore
attribute [local go_sem] yielded_undef max2_int min2_int max_two min_two max_three min_three max_four min_four   -- for this text's walks alone
set_option linter.unusedVariables false
set_option linter.unusedSimpArgs false

/-! ### laws_FnStepsMendedOfAll: function 5 -/
set_option maxHeartbeats 8000000 in
set_option maxRecDepth 100000 in
theorem laws_FnStepsMendedOfAll.stage0 (k : Nat) (A0 : Option Addr) (c0 : Nat) (l0 : List Int) (a1 a2 : Int) (A3 : Option Addr) (c3 : Nat) (l3 : List Int) (a4 : Int) (A5 : Option Addr) (c5 : Nat) (l5 : List Int) (a6 : Int) (r : Bool) (w : World) (u69 u70 u71 u72 u73 u74 u75 u76 u77 u78 u79 u80 : Value) (kj7 : Nat) (t363 : List Int) (t364 : Bool) (t368 : Bool) (t371 : Int) (t372 : Bool) (t373 : Int) (t374 : Bool) (v365 : Value) (v369 : Value) (u110 u111 u112 u113 u114 u115 u116 u117 u118 u119 u120 u121 u122 u123 u124 u125 u126 u127 u128 u129 u130 u131 u132 : Value) (kj15 : Nat) (wc : World) (u14 u23 u24 u25 u26 u27 u28 u29 u30 u134 u135 u136 u137 u138 u139 u140 u141 u142 u143 u144 u145 u146 u147 u148 u149 u150 u151 u152 u153 u154 u155 u156 u157 u158 u159 u160 u161 u162 u163 u164 u165 u166 u167 u168 u169 u170 u171 u172 u173 u174 u175 u176 u177 u178 u179 u180 u181 u182 u183 u184 u185 u186 u187 u188 u189 u190 u191 u192 u193 u194 u195 u196 u197 u198 u199 u200 u201 u202 u203 u204 u205 u206 u207 u208 u209 u210 u211 u212 u213 u214 u215 u216 u217 u218 u219 u220 u221 u222 u223 : Value) (HR3 : Aside0 ((Kd.int IntKind.i64).C w A3 l3.length l3)) (HC3 : Aside0 (l3.length ≤ c3)) (HR5 : Aside0 ((Kd.int IntKind.i64).C w A5 l5.length l5)) (HC5 : Aside0 (l5.length ≤ c5)) (HJ7 : Aside0 (kj7 + 1 ≤ k)) (HJ15 : Aside0 (kj15 + 1 ≤ kj7)) (HC35 : Aside0 ((if t364 = true then (impl_MostWears.f kj15 l0 a1).bind fun (bt376 : Int × Bool) => if bt376.snd = true then if (↑t363.length : Int) = (↑l0.length : Int) then if ((t371 == 0) != decide (bt376.fst ≥ a2)) = true then j2 kj15 l0 a1 a2 l3 a4 l5 a6 t363 t371 0 true else j2 kj15 l0 a1 a2 l3 a4 l5 a6 t363 t371 0 (decide (t371 < wrap64 (a2 - bt376.fst))) else j2 kj15 l0 a1 a2 l3 a4 l5 a6 t363 t371 0 true else j2 kj15 l0 a1 a2 l3 a4 l5 a6 t363 t371 0 true else j5 kj15 l3 a4 l5 a6) = some r)) (hcut : ∃ (kq : Nat), Aside0 (j5 kq l3 a4 l5 a6 = some r) ∧ Aside0 (kq ≤ kj15) ∧ Aside0 (Below w.heap.size w wc)) : Code.wp Try.prog (second_ (second_ (second_ (second_ (second_ (second_ (second_ (second_ (body_ Try.f5))))))))) (bodyPost Try.prog Try.f5 (fun e w' => e = .returned (.bool r) ∧ Below w.heap.size w w')) { tmps := #[Value.slice A0 l0.length c0, Value.int IntKind.i64 a1, Value.int IntKind.i64 a2, Value.slice A3 l3.length c3, Value.int IntKind.i64 a4, Value.slice A5 l5.length c5, Value.int IntKind.i64 a6, undef, undef, undef, undef, undef, undef, undef, u14, v365, Value.bool t364, v369, Value.bool t368, Value.int IntKind.i64 t371, Value.bool t372, Value.int IntKind.i64 t373, Value.bool t374, u23, u24, u25, u26, u27, u28, u29, u30, undef, undef, undef, undef, undef, undef, undef, undef, undef, undef, undef, undef, undef, undef, undef, undef, undef, undef, undef, undef, undef, undef, undef, undef, undef, undef, undef, undef, undef, undef, undef, undef, undef, undef, undef, undef, undef, undef, u69, u70, u71, u72, u73, u74, u75, u76, u77, u78, u79, u80, Value.bool false, Value.tuple #[v365, Value.bool t364], Value.slice A0 l0.length c0, Value.int IntKind.i64 a1, Value.int IntKind.i64 a2, Value.tuple #[v365, Value.bool t364], v365, Value.bool t364, Value.tuple #[v369, Value.bool t368], Value.slice A0 l0.length c0, Value.int IntKind.i64 a1, Value.int IntKind.i64 a2, Value.tuple #[v369, Value.bool t368], v369, Value.bool t368, Value.tuple #[Value.int IntKind.i64 t371, Value.bool t372], Value.slice A0 l0.length c0, Value.int IntKind.i64 a1, Value.int IntKind.i64 a2, Value.tuple #[Value.int IntKind.i64 t371, Value.bool t372], Value.int IntKind.i64 t371, Value.bool t372, Value.tuple #[Value.int IntKind.i64 t373, Value.bool t374], Value.slice A0 l0.length c0, Value.int IntKind.i64 a1, Value.int IntKind.i64 a2, Value.tuple #[Value.int IntKind.i64 t373, Value.bool t374], Value.int IntKind.i64 t373, Value.bool t374, u110, u111, u112, u113, u114, u115, u116, u117, u118, u119, u120, u121, u122, u123, u124, u125, u126, u127, u128, u129, u130, u131, u132, Value.bool false, u134, u135, u136, u137, u138, u139, u140, u141, u142, u143, u144, u145, u146, u147, u148, u149, u150, u151, u152, u153, u154, u155, u156, u157, u158, u159, u160, u161, u162, u163, u164, u165, u166, u167, u168, u169, u170, u171, u172, u173, u174, u175, u176, u177, u178, u179, u180, u181, u182, u183, u184, u185, u186, u187, u188, u189, u190, u191, u192, u193, u194, u195, u196, u197, u198, u199, u200, u201, u202, u203, u204, u205, u206, u207, u208, u209, u210, u211, u212, u213, u214, u215, u216, u217, u218, u219, u220, u221, u222, u223, undef, undef, undef, undef, undef, undef, undef, undef, undef, undef, undef, undef, undef, undef, undef, undef, undef, undef, undef, undef, undef, undef, undef, undef, undef, undef, undef, undef, undef, undef, undef, undef, undef, undef, undef, undef, undef, undef, undef, undef, undef, undef, undef, undef, undef, undef, undef, undef, undef, undef, undef, undef, undef, undef, undef, undef, undef, undef, undef, undef, undef, undef, undef, undef, undef, undef, undef, undef, undef, undef, undef, undef, undef, undef, undef, undef, undef, undef, undef, undef, undef, undef, undef, undef, undef, undef, undef, undef, undef, undef, undef, undef, undef, undef, undef, undef, undef, undef, undef, undef, undef, undef, undef, undef, undef, undef, undef, undef, undef, undef, undef, undef, undef, undef, undef, undef, undef, undef, undef, undef, undef, undef, undef, undef, undef, undef, undef, undef, undef, undef, undef, undef, undef, undef, undef, undef, undef, undef, undef, undef, undef, undef, undef, undef, undef, undef, undef, undef, undef, undef, undef, undef, undef, undef, undef, undef, undef, undef, undef, undef, undef, undef, undef, undef, undef, undef, undef, undef, undef, undef, undef, undef, undef, undef, undef, undef, undef, undef, undef, undef, undef, undef, undef, undef, undef, undef, undef, undef, undef, undef, undef, undef, undef, undef, undef, undef, undef, undef, undef, undef, undef, undef, undef, undef, undef, undef, undef, undef, undef, undef, undef, undef, undef, undef, undef, undef, undef, undef, undef, undef, undef, undef, undef, undef, undef, undef, undef, undef, undef, undef, undef, undef, undef, undef, undef, undef, undef, undef, undef, undef, undef, undef, undef, undef, undef, undef, undef, undef, undef, undef, undef, undef, undef, undef, undef, undef, undef, undef, undef, undef, undef, undef, undef, undef, undef, undef, undef, undef, undef, undef, undef, undef, undef, undef, undef, undef, undef, undef, undef, undef, undef, undef, undef, undef, undef, undef, undef, undef, undef, undef, undef, undef, undef, undef, undef, undef, undef, undef, undef, undef, undef, undef, undef, undef, undef, undef, undef, undef, undef, undef, undef, undef, undef, undef, undef, undef, undef], defers := [] } wc := by
 dsimp only [second_, body_, Try.f5]
 clear HC35
 (try clear c1); (try clear p3); (try clear q3); (try clear hx3); (try clear c4); (try clear q5); (try clear c6); (try clear p6); (try clear q6); (try clear c34); (try clear c36); (try clear p37); (try clear q37); (try clear hx37); (try clear p38); (try clear q38); (try clear hx38); (try clear c40); (try clear c41); (try clear c41b0); (try clear c41b1); (try clear c41b2); (try clear c42); (try clear c42b0); (try clear c42b1); (try clear c42b2); (try clear c46); (try clear c48); (try clear c48b0); (try clear c49); (try clear c49b0); (try clear c50); (try clear c50b0); (try clear c51); (try clear c51b0); (try clear c52); (try clear c52b0); (try clear c53); (try clear c53b0); (try clear c54); (try clear c54b0); (try clear c54b1); (try clear c55); (try clear c55b0); (try clear c55b1); (try clear c56); (try clear c56b0); (try clear c58); (try clear c58b0); (try clear c59); (try clear q59); (try clear c60); (try clear q60); (try clear c61); (try clear c61b0); (try clear c61b1); (try clear c62); (try clear c62b0); (try clear c64); (try clear p64); (try clear c65); (try clear c65b0); (try clear hx378_0); (try clear hx379_0); (try clear hx380_0); (try clear p378); (try clear p379); (try clear p380); (try clear q059); (try clear q060); (try clear q378); (try clear q379); (try clear q380)
 obtain ⟨kq, HA, HJ34, HB⟩ := hcut
 cases kq with
 | zero => exact absurd HA.out (by simp [laws_FnStepsMendedOfAll.j5])
 | succ kj34 =>
  have H := HA.out
  clear HA
  simp only [laws_FnStepsMendedOfAll.j5] at H
  replace H := Option.bind_eq_some_iff.mp H
  obtain ⟨⟨t388, t389⟩, A690, H⟩ := H
  try dsimp only at H
  have A69 := Aside0.mk A690
  clear A690
  replace H := Option.bind_eq_some_iff.mp H
  obtain ⟨⟨t392, t393⟩, A700, H⟩ := H
  try dsimp only at H
  have A70 := Aside0.mk A700
  clear A700
  replace H := Option.bind_eq_some_iff.mp H
  obtain ⟨⟨t396, t397, t398⟩, A710, H⟩ := H
  try dsimp only at H
  have A71 := Aside0.mk A710
  clear A710
  replace H := Option.bind_eq_some_iff.mp H
  obtain ⟨⟨t399, t400, t401⟩, A720, H⟩ := H
  try dsimp only at H
  have A72 := Aside0.mk A720
  clear A720
  replace H := Option.bind_eq_some_iff.mp H
  obtain ⟨⟨t402, t403⟩, A730, H⟩ := H
  try dsimp only at H
  have A73 := Aside0.mk A730
  clear A730
  replace H := Option.bind_eq_some_iff.mp H
  obtain ⟨⟨t406, t407⟩, A740, H⟩ := H
  try dsimp only at H
  have A74 := Aside0.mk A740
  clear A740
  replace H := Option.bind_eq_some_iff.mp H
  obtain ⟨⟨t410, t411⟩, A750, H⟩ := H
  try dsimp only at H
  have A75 := Aside0.mk A750
  clear A750
  replace H := Option.bind_eq_some_iff.mp H
  obtain ⟨⟨t412, t413⟩, A760, H⟩ := H
  try dsimp only at H
  have A76 := Aside0.mk A760
  clear A760
  replace H := Option.bind_eq_some_iff.mp H
  obtain ⟨⟨t414, t415⟩, A770, H⟩ := H
  try dsimp only at H
  have A77 := Aside0.mk A770
  clear A770
  replace H := Option.bind_eq_some_iff.mp H
  obtain ⟨⟨t416, t417⟩, A780, H⟩ := H
  try dsimp only at H
  have A78 := Aside0.mk A780
  clear A780
  replace H := Option.bind_eq_some_iff.mp H
  obtain ⟨⟨t418, t419⟩, A790, H⟩ := H
  try dsimp only at H
  have A79 := Aside0.mk A790
  clear A790
  replace H := Option.bind_eq_some_iff.mp H
  obtain ⟨⟨t420, t421⟩, A800, H⟩ := H
  try dsimp only at H
  have A80 := Aside0.mk A800
  clear A800
  have HC81 := Aside0.mk H
  clear H
  go_upto_region 44 with (first | ((with_reducible refine gate_callee (f := 25) rfl ?_); refine goesL_ (some 227) rfl rfl Try.func25 (by kernel_rfl) rfl #[.slice A3 l3.length c3, .int .i64 a4] rfl Zc ?_; (with_reducible refine (impl_IdleBears.calls kj34 _ _ l3 a4 t388 t389 _ ?side1 ?side2 A69.out).mono ?_); (case side1 => exact CS (Kd.C_below HR3.out HB.out)); (case side2 => exact HC3.out); rintro e w82 ⟨v390, rfl, ho0, hb⟩; refine ⟨_, rfl, ?_⟩; have n0_ := Aside0.mk (Kd.R_lower ho0 (below_size (BS HB.out))); have n1_ := Aside0.mk (below_step (BS HB.out) hb); clear HB; have HO391 := n0_; have HB := n1_; clear n0_ n1_; (try clear hb); (try clear hb2); (try clear hk); (try clear hi); (try clear ho0)) | ((with_reducible refine gate_callee (f := 26) rfl ?_); refine goesL_ (some 233) rfl rfl Try.func26 (by kernel_rfl) rfl #[.slice A3 l3.length c3, .int .i64 a4] rfl Zc ?_; (with_reducible refine (spec_IdleBears.calls kj34 _ _ l3 a4 t392 t393 _ ?side1 ?side2 A70.out).mono ?_); (case side1 => exact CS (Kd.C_below HR3.out HB.out)); (case side2 => exact HC3.out); rintro e w83 ⟨v394, rfl, ho0, hb⟩; refine ⟨_, rfl, ?_⟩; have n0_ := Aside0.mk (Kd.R_elder' (RS HO391.out) (Kd.R_base ho0) hb); have n1_ := Aside0.mk (Kd.R_lower (Kd.R_new' ho0 (Kd.R_lt (RS HO391.out))) (below_size (BS HB.out))); have n2_ := Aside0.mk (below_step (BS HB.out) hb); clear HO391; clear HB; have HO391 := n0_; have HO395 := n1_; have HB := n2_; clear n0_ n1_ n2_; (try clear hb); (try clear hb2); (try clear hk); (try clear hi); (try clear ho0)) | ((with_reducible refine gate_callee (f := 27) rfl ?_); refine goesL_ (some 239) rfl rfl Try.func27 (by kernel_rfl) rfl #[.slice A3 l3.length c3, .int .i64 a4] rfl Zc ?_; (with_reducible refine (impl_WorstStepToLose.calls kj34 _ _ l3 a4 t396 t397 t398 _ ?side1 ?side2 A71.out).mono ?_); (case side1 => exact CS (Kd.C_below HR3.out HB.out)); (case side2 => exact HC3.out); rintro e w84 ⟨rfl, hb⟩; refine ⟨_, rfl, ?_⟩; have n0_ := Aside0.mk (Kd.R_below (RS HO391.out) hb); have n1_ := Aside0.mk (Kd.R_below (RS HO395.out) hb); have n2_ := Aside0.mk (below_step (BS HB.out) hb); clear HO391; clear HO395; clear HB; have HO391 := n0_; have HO395 := n1_; have HB := n2_; clear n0_ n1_ n2_; (try clear hb); (try clear hb2); (try clear hk); (try clear hi)) | ((with_reducible refine gate_callee (f := 28) rfl ?_); refine goesL_ (some 246) rfl rfl Try.func28 (by kernel_rfl) rfl #[.slice A3 l3.length c3, .int .i64 a4] rfl Zc ?_; (with_reducible refine (spec_WorstStepToLose.calls kj34 _ _ l3 a4 t399 t400 t401 _ ?side1 ?side2 A72.out).mono ?_); (case side1 => exact CS (Kd.C_below HR3.out HB.out)); (case side2 => exact HC3.out); rintro e w85 ⟨rfl, hb⟩; refine ⟨_, rfl, ?_⟩; have n0_ := Aside0.mk (Kd.R_below (RS HO391.out) hb); have n1_ := Aside0.mk (Kd.R_below (RS HO395.out) hb); have n2_ := Aside0.mk (below_step (BS HB.out) hb); clear HO391; clear HO395; clear HB; have HO391 := n0_; have HO395 := n1_; have HB := n2_; clear n0_ n1_ n2_; (try clear hb); (try clear hb2); (try clear hk); (try clear hi)) | ((with_reducible refine gate_callee (f := 29) rfl ?_); refine goesL_ (some 253) rfl rfl Try.func29 (by kernel_rfl) rfl #[.slice A3 l3.length c3, .int .i64 a4] rfl Zc ?_; (with_reducible refine (impl_FirstWearClimb.calls kj34 _ _ l3 a4 t402 t403 _ ?side1 ?side2 A73.out).mono ?_); (case side1 => exact CS (Kd.C_below HR3.out HB.out)); (case side2 => exact HC3.out); rintro e w86 ⟨v404, rfl, ho0, hb⟩; refine ⟨_, rfl, ?_⟩; have n0_ := Aside0.mk (Kd.R_elder' (RS HO391.out) (Kd.R_base ho0) hb); have n1_ := Aside0.mk (Kd.R_elder' (RS HO395.out) (Kd.R_base ho0) hb); have n2_ := Aside0.mk (Kd.R_lower (Kd.R_new' (Kd.R_new' ho0 (Kd.R_lt (RS HO391.out))) (Kd.R_lt (RS HO395.out))) (below_size (BS HB.out))); have n3_ := Aside0.mk (below_step (BS HB.out) hb); clear HO391; clear HO395; clear HB; have HO391 := n0_; have HO395 := n1_; have HO405 := n2_; have HB := n3_; clear n0_ n1_ n2_ n3_; (try clear hb); (try clear hb2); (try clear hk); (try clear hi); (try clear ho0)) | ((with_reducible refine gate_callee (f := 30) rfl ?_); refine goesL_ (some 259) rfl rfl Try.func30 (by kernel_rfl) rfl #[.slice A3 l3.length c3, .int .i64 a4] rfl Zc ?_; (with_reducible refine (spec_FirstWearClimb.calls kj34 _ _ l3 a4 t406 t407 _ ?side1 ?side2 A74.out).mono ?_); (case side1 => exact CS (Kd.C_below HR3.out HB.out)); (case side2 => exact HC3.out); rintro e w87 ⟨v408, rfl, ho0, hb⟩; refine ⟨_, rfl, ?_⟩; have n0_ := Aside0.mk (Kd.R_elder' (RS HO391.out) (Kd.R_base ho0) hb); have n1_ := Aside0.mk (Kd.R_elder' (RS HO395.out) (Kd.R_base ho0) hb); have n2_ := Aside0.mk (Kd.R_elder' (RS HO405.out) (Kd.R_base ho0) hb); have n3_ := Aside0.mk (Kd.R_lower (Kd.R_new' (Kd.R_new' (Kd.R_new' ho0 (Kd.R_lt (RS HO391.out))) (Kd.R_lt (RS HO395.out))) (Kd.R_lt (RS HO405.out))) (below_size (BS HB.out))); have n4_ := Aside0.mk (below_step (BS HB.out) hb); clear HO391; clear HO395; clear HO405; clear HB; have HO391 := n0_; have HO395 := n1_; have HO405 := n2_; have HO409 := n3_; have HB := n4_; clear n0_ n1_ n2_ n3_ n4_; (try clear hb); (try clear hb2); (try clear hk); (try clear hi); (try clear ho0)) | ((with_reducible refine gate_callee (f := 31) rfl ?_); refine goesL_ (some 265) rfl rfl Try.func31 (by kernel_rfl) rfl #[.slice A3 l3.length c3, .int .i64 a4] rfl Zc ?_; (with_reducible refine (impl_FewestOnWear.calls kj34 _ _ l3 a4 t410 t411 _ ?side1 ?side2 A75.out).mono ?_); (case side1 => exact CS (Kd.C_below HR3.out HB.out)); (case side2 => exact HC3.out); rintro e w88 ⟨rfl, hb⟩; refine ⟨_, rfl, ?_⟩; have n0_ := Aside0.mk (Kd.R_below (RS HO391.out) hb); have n1_ := Aside0.mk (Kd.R_below (RS HO395.out) hb); have n2_ := Aside0.mk (Kd.R_below (RS HO405.out) hb); have n3_ := Aside0.mk (Kd.R_below (RS HO409.out) hb); have n4_ := Aside0.mk (below_step (BS HB.out) hb); clear HO391; clear HO395; clear HO405; clear HO409; clear HB; have HO391 := n0_; have HO395 := n1_; have HO405 := n2_; have HO409 := n3_; have HB := n4_; clear n0_ n1_ n2_ n3_ n4_; (try clear hb); (try clear hb2); (try clear hk); (try clear hi)) | ((with_reducible refine gate_callee (f := 32) rfl ?_); refine goesL_ (some 271) rfl rfl Try.func32 (by kernel_rfl) rfl #[.slice A3 l3.length c3, .int .i64 a4] rfl Zc ?_; (with_reducible refine (spec_FewestOnWear.calls kj34 _ _ l3 a4 t412 t413 _ ?side1 ?side2 A76.out).mono ?_); (case side1 => exact CS (Kd.C_below HR3.out HB.out)); (case side2 => exact HC3.out); rintro e w89 ⟨rfl, hb⟩; refine ⟨_, rfl, ?_⟩; have n0_ := Aside0.mk (Kd.R_below (RS HO391.out) hb); have n1_ := Aside0.mk (Kd.R_below (RS HO395.out) hb); have n2_ := Aside0.mk (Kd.R_below (RS HO405.out) hb); have n3_ := Aside0.mk (Kd.R_below (RS HO409.out) hb); have n4_ := Aside0.mk (below_step (BS HB.out) hb); clear HO391; clear HO395; clear HO405; clear HO409; clear HB; have HO391 := n0_; have HO395 := n1_; have HO405 := n2_; have HO409 := n3_; have HB := n4_; clear n0_ n1_ n2_ n3_ n4_; (try clear hb); (try clear hb2); (try clear hk); (try clear hi)) | ((with_reducible refine gate_callee (f := 33) rfl ?_); refine goesL_ (some 277) rfl rfl Try.func33 (by kernel_rfl) rfl #[.slice A3 l3.length c3, .int .i64 a4] rfl Zc ?_; (with_reducible refine (impl_CountWearClimbs.calls kj34 _ _ l3 a4 t414 t415 _ ?side1 ?side2 A77.out).mono ?_); (case side1 => exact CS (Kd.C_below HR3.out HB.out)); (case side2 => exact HC3.out); rintro e w90 ⟨rfl, hb⟩; refine ⟨_, rfl, ?_⟩; have n0_ := Aside0.mk (Kd.R_below (RS HO391.out) hb); have n1_ := Aside0.mk (Kd.R_below (RS HO395.out) hb); have n2_ := Aside0.mk (Kd.R_below (RS HO405.out) hb); have n3_ := Aside0.mk (Kd.R_below (RS HO409.out) hb); have n4_ := Aside0.mk (below_step (BS HB.out) hb); clear HO391; clear HO395; clear HO405; clear HO409; clear HB; have HO391 := n0_; have HO395 := n1_; have HO405 := n2_; have HO409 := n3_; have HB := n4_; clear n0_ n1_ n2_ n3_ n4_; (try clear hb); (try clear hb2); (try clear hk); (try clear hi)) | ((with_reducible refine gate_callee (f := 34) rfl ?_); refine goesL_ (some 283) rfl rfl Try.func34 (by kernel_rfl) rfl #[.slice A3 l3.length c3, .int .i64 a4] rfl Zc ?_; (with_reducible refine (spec_CountWearClimbs.calls kj34 _ _ l3 a4 t416 t417 _ ?side1 ?side2 A78.out).mono ?_); (case side1 => exact CS (Kd.C_below HR3.out HB.out)); (case side2 => exact HC3.out); rintro e w91 ⟨rfl, hb⟩; refine ⟨_, rfl, ?_⟩; have n0_ := Aside0.mk (Kd.R_below (RS HO391.out) hb); have n1_ := Aside0.mk (Kd.R_below (RS HO395.out) hb); have n2_ := Aside0.mk (Kd.R_below (RS HO405.out) hb); have n3_ := Aside0.mk (Kd.R_below (RS HO409.out) hb); have n4_ := Aside0.mk (below_step (BS HB.out) hb); clear HO391; clear HO395; clear HO405; clear HO409; clear HB; have HO391 := n0_; have HO395 := n1_; have HO405 := n2_; have HO409 := n3_; have HB := n4_; clear n0_ n1_ n2_ n3_ n4_; (try clear hb); (try clear hb2); (try clear hk); (try clear hi)) | ((with_reducible refine gate_callee (f := 35) rfl ?_); refine goesL_ (some 289) rfl rfl Try.func35 (by kernel_rfl) rfl #[.slice A5 l5.length c5, .int .i64 a6] rfl Zc ?_; (with_reducible refine (impl_ReachForWears.calls kj34 _ _ l5 a6 t418 t419 _ ?side1 ?side2 A79.out).mono ?_); (case side1 => exact CS (Kd.C_below HR5.out HB.out)); (case side2 => exact HC5.out); rintro e w92 ⟨rfl, hb⟩; refine ⟨_, rfl, ?_⟩; have n0_ := Aside0.mk (Kd.R_below (RS HO391.out) hb); have n1_ := Aside0.mk (Kd.R_below (RS HO395.out) hb); have n2_ := Aside0.mk (Kd.R_below (RS HO405.out) hb); have n3_ := Aside0.mk (Kd.R_below (RS HO409.out) hb); have n4_ := Aside0.mk (below_step (BS HB.out) hb); clear HO391; clear HO395; clear HO405; clear HO409; clear HB; have HO391 := n0_; have HO395 := n1_; have HO405 := n2_; have HO409 := n3_; have HB := n4_; clear n0_ n1_ n2_ n3_ n4_; (try clear hb); (try clear hb2); (try clear hk); (try clear hi)) | ((with_reducible refine gate_callee (f := 36) rfl ?_); refine goesL_ (some 295) rfl rfl Try.func36 (by kernel_rfl) rfl #[.slice A5 l5.length c5, .int .i64 a6] rfl Zc ?_; (with_reducible refine (spec_ReachForWears.calls kj34 _ _ l5 a6 t420 t421 _ ?side1 ?side2 A80.out).mono ?_); (case side1 => exact CS (Kd.C_below HR5.out HB.out)); (case side2 => exact HC5.out); rintro e w93 ⟨rfl, hb⟩; refine ⟨_, rfl, ?_⟩; have n0_ := Aside0.mk (Kd.R_below (RS HO391.out) hb); have n1_ := Aside0.mk (Kd.R_below (RS HO395.out) hb); have n2_ := Aside0.mk (Kd.R_below (RS HO405.out) hb); have n3_ := Aside0.mk (Kd.R_below (RS HO409.out) hb); have n4_ := Aside0.mk (below_step (BS HB.out) hb); clear HO391; clear HO395; clear HO405; clear HO409; clear HB; have HO391 := n0_; have HO395 := n1_; have HO405 := n2_; have HO409 := n3_; have HB := n4_; clear n0_ n1_ n2_ n3_ n4_; (try clear hb); (try clear hb2); (try clear hk); (try clear hi)))
  (try simp only [Act.put, List.setIfInBounds_toArray, List.set_cons_zero, List.set_cons_succ])
  go_cut [381] from 381 to 381 (fun v381 wc => ∃ (kq : Nat) (x381_80 : Bool), v381 = .bool x381_80 ∧ Aside0 (laws_FnStepsMendedOfAll.j6 kq l3 a4 l5 a6 t388 t389 t396 t397 t402 t403 t410 t418 t419 x381_80 = some r) ∧ Aside0 (kq ≤ kj34) ∧ Aside0 (Kd.R (Kd.int .i64) 3 wc w.heap.size (fun k_ => some k_ ≠ (v404 : Value).ownBlock) v390 t388) ∧ Aside0 (Kd.R (Kd.int .i64) 3 wc w.heap.size (fun k_ => some k_ ≠ (v390 : Value).ownBlock) v404 t402) ∧ Aside0 (Below w.heap.size w wc))
  case first =>
   dsimp only [List.append_eq, List.cons_append, List.nil_append]
   have H := HC81.out
   clear HC81
   by_cases c94 : (t389 != t393) = true
   ·rw [if_pos c94] at H
    have c94b0 : (t389 != t393) = true := c94
    (try (have c94b1 : decide (t389 = t393) = false := by simpa using c94))
    (try (have c94b2 : (t389 == t393) = false := by simpa using c94))
    (try (have c94b3 : ¬ (t389 = t393) := by simpa using c94))
    clear c94
    (first | rw [c94b0] | (simp only [i64_w, i32_w]; rw [c94b0]) | skip)
    have H' := Aside0.mk H
    clear H
    repeat
      fail_if_success (with_reducible show wpList _ _ _ (⟨some 302, _, _, _, _, _⟩ :: _) _ _)
      first | go_skip | go_guarded | go_step | go_upon | go_back | dsimp only
    with_reducible refine tl_of 301 [0, 0, 0, 0, 1, 1, 0, 0, 0, 1, 1, 0, 0, 0, 1, 1, 0, 0, 0, 1, 1, 0, 0, 0, 1, 1, 0, 0, 0, 0, 1, 1, 0, 0, 0, 1, 1, 0, 0, 0, 1, 1, 0, 0, 0, 1, 1, 0, 0, 0, 1, 1, 0, 0, 0, 1, 1, 0, 0, 0, 1, 1, 0, 0, 0, 1, 1, 0, 0, 0, 1, 1, 0, 0, 0, 0, 0, 0, 0, 1] (by kernel_rfl) (by kernel_rfl) (by kernel_rfl) ?_
    go_step
    go_step
    go_meet
    case rel => exact ⟨_, (true), Za, H', ⟨by have := HJ7.out; have := HJ15.out; have := HJ34.out; first | omega | exact Nat.le_refl _⟩, ⟨RS (Kd.R_mono HO391.out (fun _ hk => hk.1.2))⟩, ⟨RS (Kd.R_mono HO405.out (fun _ hk => hk.1.1.2))⟩, ⟨BS HB.out⟩⟩
   ·rw [if_neg c94] at H
    have c94b0 : (t389 != t393) = false := by simpa using c94
    (try (have c94b1 : decide (t389 = t393) = true := by simpa using c94))
    (try (have c94b2 : (t389 == t393) = true := by simpa using c94))
    clear c94
    (first | rw [c94b0] | (simp only [i64_w, i32_w]; rw [c94b0]) | skip)
    replace H := Option.bind_eq_some_iff.mp H
    obtain ⟨t422, A950, H⟩ := H
    try dsimp only at H
    have A95 := Aside0.mk A950
    clear A950
    repeat
      fail_if_success (with_reducible show wpList _ _ _ (⟨some 302, _, _, _, _, _⟩ :: _) _ _)
      first | go_skip | go_guarded | go_step | go_upon | go_back | dsimp only
    by_cases c96 : t422 = true
    ·subst c96
     have H1 : (if (t398 != t401) = true then (laws_FnStepsMendedOfAll.j6 kj34 l3 a4 l5 a6 t388 t389 t396 t397 t402 t403 t410 t418 t419 true) else (if t396 = t399 then (if t397 = t400 then (if (t403 != t407) = true then (laws_FnStepsMendedOfAll.j6 kj34 l3 a4 l5 a6 t388 t389 t396 t397 t402 t403 t410 t418 t419 true) else ((laws_wSame.f kj34 t402 t406).bind fun t423 => (if t423 = true then (if (t411 != t413) = true then (laws_FnStepsMendedOfAll.j6 kj34 l3 a4 l5 a6 t388 t389 t396 t397 t402 t403 t410 t418 t419 true) else (if t410 = t412 then (if (t415 != t417) = true then (laws_FnStepsMendedOfAll.j6 kj34 l3 a4 l5 a6 t388 t389 t396 t397 t402 t403 t410 t418 t419 true) else (if t414 = t416 then (if (t419 != t421) = true then (laws_FnStepsMendedOfAll.j6 kj34 l3 a4 l5 a6 t388 t389 t396 t397 t402 t403 t410 t418 t419 true) else (if t418 = t420 then (if (t398 != t389) = true then (laws_FnStepsMendedOfAll.j6 kj34 l3 a4 l5 a6 t388 t389 t396 t397 t402 t403 t410 t418 t419 true) else (if (t411 != t403) = true then (laws_FnStepsMendedOfAll.j6 kj34 l3 a4 l5 a6 t388 t389 t396 t397 t402 t403 t410 t418 t419 true) else (if t415 = true then (laws_FnStepsMendedOfAll.j6 kj34 l3 a4 l5 a6 t388 t389 t396 t397 t402 t403 t410 t418 t419 (t403 != (decide (t414 > 0)))) else (laws_FnStepsMendedOfAll.j6 kj34 l3 a4 l5 a6 t388 t389 t396 t397 t402 t403 t410 t418 t419 false)))) else (laws_FnStepsMendedOfAll.j6 kj34 l3 a4 l5 a6 t388 t389 t396 t397 t402 t403 t410 t418 t419 true))) else (laws_FnStepsMendedOfAll.j6 kj34 l3 a4 l5 a6 t388 t389 t396 t397 t402 t403 t410 t418 t419 true))) else (laws_FnStepsMendedOfAll.j6 kj34 l3 a4 l5 a6 t388 t389 t396 t397 t402 t403 t410 t418 t419 true))) else (laws_FnStepsMendedOfAll.j6 kj34 l3 a4 l5 a6 t388 t389 t396 t397 t402 t403 t410 t418 t419 true)))) else (laws_FnStepsMendedOfAll.j6 kj34 l3 a4 l5 a6 t388 t389 t396 t397 t402 t403 t410 t418 t419 true)) else (laws_FnStepsMendedOfAll.j6 kj34 l3 a4 l5 a6 t388 t389 t396 t397 t402 t403 t410 t418 t419 true))) = some r := by rw [if_pos rfl] at H; exact H
     clear H
     have H := H1
     clear H1
     obtain ⟨Ao164, co164, eo164⟩ := Kd.R_slice HO391.out
     subst eo164
     obtain ⟨Ao165, co165, eo165⟩ := Kd.R_slice HO395.out
     subst eo165
     repeat
       fail_if_success (with_reducible show wpList _ _ _ (⟨some 308, _, _, _, _, _⟩ :: _) _ _)
       first | (first | (go_at_call 22; (with_reducible refine (laws_wSame.calls kj34 _ _ t388 _ _ t392 true _ ?side1 ?side2 ?side3 ?side4 A95.out).mono ?_); (case side1 => exact CS (Kd.R_reads' HO391.out).2.2); (case side2 => exact (Kd.R_reads' HO391.out).2.1); (case side3 => exact CS (Kd.R_reads' HO395.out).2.2); (case side4 => exact (Kd.R_reads' HO395.out).2.1); rintro e w' ⟨rfl, ⟨nd, rfl⟩⟩)) | go_skip | go_guarded | go_step | go_upon | go_back | dsimp only
     by_cases c97 : (t398 != t401) = true
     ·rw [if_pos c97] at H
      have c97b0 : (t398 != t401) = true := c97
      (try (have c97b1 : decide (t398 = t401) = false := by simpa using c97))
      (try (have c97b2 : (t398 == t401) = false := by simpa using c97))
      (try (have c97b3 : ¬ (t398 = t401) := by simpa using c97))
      clear c97
      have H' := Aside0.mk H
      clear H
      repeat
        fail_if_success (with_reducible show wpList _ _ _ (⟨some 313, _, _, _, _, _⟩ :: _) _ _)
        first | go_skip | go_guarded | go_step | go_upon | go_back | dsimp only
      with_reducible refine tl_of 312 [0, 0, 0, 1, 1, 0, 0, 0, 1, 1, 0, 0, 0, 1, 1, 0, 0, 0, 0, 1, 1, 0, 0, 0, 1, 1, 0, 0, 0, 1, 1, 0, 0, 0, 1, 1, 0, 0, 0, 1, 1, 0, 0, 0, 1, 1, 0, 0, 0, 1, 1, 0, 0, 0, 1, 1, 0, 0, 0, 1, 1, 0, 0, 0, 0, 0, 0, 0, 1] (by kernel_rfl) (by kernel_rfl) (by kernel_rfl) ?_
      go_step
      go_step
      go_meet
      case rel => exact ⟨_, (true), Za, H', ⟨by have := HJ7.out; have := HJ15.out; have := HJ34.out; first | omega | exact Nat.le_refl _⟩, ⟨RS (Kd.R_mono HO391.out (fun _ hk => hk.1.2))⟩, ⟨RS (Kd.R_mono HO405.out (fun _ hk => hk.1.1.2))⟩, ⟨BS HB.out⟩⟩
     ·rw [if_neg c97] at H
      have c97b0 : (t398 != t401) = false := by simpa using c97
      (try (have c97b1 : decide (t398 = t401) = true := by simpa using c97))
      (try (have c97b2 : (t398 == t401) = true := by simpa using c97))
      clear c97
      repeat
        fail_if_success (with_reducible show wpList _ _ _ (⟨some 313, _, _, _, _, _⟩ :: _) _ _)
        first | go_skip | go_guarded | go_step | go_upon | go_back | dsimp only
      by_cases c100 : t396 = t399
      ·rw [if_pos c100] at H
       have c100b0 : (t396 == t399) = true := beq_iff_eq.mpr c100
       have c100b1 : (t396 != t399) = false := bne_eq_false_iff_eq.mpr c100
       clear c100
       repeat
         fail_if_success (with_reducible show wpList _ _ _ (⟨some 318, _, _, _, _, _⟩ :: _) _ _)
         first | go_skip | go_guarded | go_step | go_upon | go_back | dsimp only
       by_cases c101 : t397 = t400
       ·rw [if_pos c101] at H
        have c101b0 : (t397 == t400) = true := beq_iff_eq.mpr c101
        have c101b1 : (t397 != t400) = false := bne_eq_false_iff_eq.mpr c101
        clear c101
        repeat
          fail_if_success (with_reducible show wpList _ _ _ (⟨some 323, _, _, _, _, _⟩ :: _) _ _)
          first | go_skip | go_guarded | go_step | go_upon | go_back | dsimp only
        by_cases c102 : (t403 != t407) = true
        ·rw [if_pos c102] at H
         have c102b0 : (t403 != t407) = true := c102
         (try (have c102b1 : decide (t403 = t407) = false := by simpa using c102))
         (try (have c102b2 : (t403 == t407) = false := by simpa using c102))
         (try (have c102b3 : ¬ (t403 = t407) := by simpa using c102))
         clear c102
         have H' := Aside0.mk H
         clear H
         repeat
           fail_if_success (with_reducible show wpList _ _ _ (⟨some 328, _, _, _, _, _⟩ :: _) _ _)
           first | go_skip | go_guarded | go_step | go_upon | go_back | dsimp only
         with_reducible refine tl_of 327 [0, 0, 0, 0, 1, 1, 0, 0, 0, 1, 1, 0, 0, 0, 1, 1, 0, 0, 0, 1, 1, 0, 0, 0, 1, 1, 0, 0, 0, 1, 1, 0, 0, 0, 1, 1, 0, 0, 0, 1, 1, 0, 0, 0, 1, 1, 0, 0, 0, 0, 0, 0, 0, 1] (by kernel_rfl) (by kernel_rfl) (by kernel_rfl) ?_
         go_step
         go_step
         go_meet
         case rel => exact ⟨_, (true), Za, H', ⟨by have := HJ7.out; have := HJ15.out; have := HJ34.out; first | omega | exact Nat.le_refl _⟩, ⟨RS (Kd.R_mono HO391.out (fun _ hk => hk.1.2))⟩, ⟨RS (Kd.R_mono HO405.out (fun _ hk => hk.1.1.2))⟩, ⟨BS HB.out⟩⟩
        ·rw [if_neg c102] at H
         have c102b0 : (t403 != t407) = false := by simpa using c102
         (try (have c102b1 : decide (t403 = t407) = true := by simpa using c102))
         (try (have c102b2 : (t403 == t407) = true := by simpa using c102))
         clear c102
         replace H := Option.bind_eq_some_iff.mp H
         obtain ⟨t423, A1050, H⟩ := H
         try dsimp only at H
         have A105 := Aside0.mk A1050
         clear A1050
         repeat
           fail_if_success (with_reducible show wpList _ _ _ (⟨some 328, _, _, _, _, _⟩ :: _) _ _)
           first | go_skip | go_guarded | go_step | go_upon | go_back | dsimp only
         by_cases c106 : t423 = true
         ·subst c106
          have H1 : (if (t411 != t413) = true then (laws_FnStepsMendedOfAll.j6 kj34 l3 a4 l5 a6 t388 t389 t396 t397 t402 t403 t410 t418 t419 true) else (if t410 = t412 then (if (t415 != t417) = true then (laws_FnStepsMendedOfAll.j6 kj34 l3 a4 l5 a6 t388 t389 t396 t397 t402 t403 t410 t418 t419 true) else (if t414 = t416 then (if (t419 != t421) = true then (laws_FnStepsMendedOfAll.j6 kj34 l3 a4 l5 a6 t388 t389 t396 t397 t402 t403 t410 t418 t419 true) else (if t418 = t420 then (if (t398 != t389) = true then (laws_FnStepsMendedOfAll.j6 kj34 l3 a4 l5 a6 t388 t389 t396 t397 t402 t403 t410 t418 t419 true) else (if (t411 != t403) = true then (laws_FnStepsMendedOfAll.j6 kj34 l3 a4 l5 a6 t388 t389 t396 t397 t402 t403 t410 t418 t419 true) else (if t415 = true then (laws_FnStepsMendedOfAll.j6 kj34 l3 a4 l5 a6 t388 t389 t396 t397 t402 t403 t410 t418 t419 (t403 != (decide (t414 > 0)))) else (laws_FnStepsMendedOfAll.j6 kj34 l3 a4 l5 a6 t388 t389 t396 t397 t402 t403 t410 t418 t419 false)))) else (laws_FnStepsMendedOfAll.j6 kj34 l3 a4 l5 a6 t388 t389 t396 t397 t402 t403 t410 t418 t419 true))) else (laws_FnStepsMendedOfAll.j6 kj34 l3 a4 l5 a6 t388 t389 t396 t397 t402 t403 t410 t418 t419 true))) else (laws_FnStepsMendedOfAll.j6 kj34 l3 a4 l5 a6 t388 t389 t396 t397 t402 t403 t410 t418 t419 true))) = some r := by rw [if_pos rfl] at H; exact H
          clear H
          have H := H1
          clear H1
          obtain ⟨Ao158, co158, eo158⟩ := Kd.R_slice HO405.out
          subst eo158
          obtain ⟨Ao159, co159, eo159⟩ := Kd.R_slice HO409.out
          subst eo159
          repeat
            fail_if_success (with_reducible show wpList _ _ _ (⟨some 334, _, _, _, _, _⟩ :: _) _ _)
            first | (first | (go_at_call 22; (with_reducible refine (laws_wSame.calls kj34 _ _ t388 _ _ t392 true _ ?side1 ?side2 ?side3 ?side4 A95.out).mono ?_); (case side1 => exact CS (Kd.R_reads' HO391.out).2.2); (case side2 => exact (Kd.R_reads' HO391.out).2.1); (case side3 => exact CS (Kd.R_reads' HO395.out).2.2); (case side4 => exact (Kd.R_reads' HO395.out).2.1); rintro e w' ⟨rfl, ⟨nd, rfl⟩⟩) | (go_at_call 22; (with_reducible refine (laws_wSame.calls kj34 _ _ t402 _ _ t406 true _ ?side1 ?side2 ?side3 ?side4 A105.out).mono ?_); (case side1 => exact CS (Kd.R_reads' HO405.out).2.2); (case side2 => exact (Kd.R_reads' HO405.out).2.1); (case side3 => exact CS (Kd.R_reads' HO409.out).2.2); (case side4 => exact (Kd.R_reads' HO409.out).2.1); rintro e w' ⟨rfl, ⟨nd, rfl⟩⟩)) | go_skip | go_guarded | go_step | go_upon | go_back | dsimp only
          by_cases c107 : (t411 != t413) = true
          ·rw [if_pos c107] at H
           have c107b0 : (t411 != t413) = true := c107
           (try (have c107b1 : decide (t411 = t413) = false := by simpa using c107))
           (try (have c107b2 : (t411 == t413) = false := by simpa using c107))
           (try (have c107b3 : ¬ (t411 = t413) := by simpa using c107))
           clear c107
           have H' := Aside0.mk H
           clear H
           repeat
             fail_if_success (with_reducible show wpList _ _ _ (⟨some 339, _, _, _, _, _⟩ :: _) _ _)
             first | go_skip | go_guarded | go_step | go_upon | go_back | dsimp only
           with_reducible refine tl_of 338 [0, 0, 0, 1, 1, 0, 0, 0, 1, 1, 0, 0, 0, 1, 1, 0, 0, 0, 1, 1, 0, 0, 0, 1, 1, 0, 0, 0, 1, 1, 0, 0, 0, 1, 1, 0, 0, 0, 0, 0, 0, 0, 1] (by kernel_rfl) (by kernel_rfl) (by kernel_rfl) ?_
           go_step
           go_step
           go_meet
           case rel => exact ⟨_, (true), Za, H', ⟨by have := HJ7.out; have := HJ15.out; have := HJ34.out; first | omega | exact Nat.le_refl _⟩, ⟨RS (Kd.R_mono HO391.out (fun _ hk => hk.1.2))⟩, ⟨RS (Kd.R_mono HO405.out (fun _ hk => hk.1.1.2))⟩, ⟨BS HB.out⟩⟩
          ·rw [if_neg c107] at H
           have c107b0 : (t411 != t413) = false := by simpa using c107
           (try (have c107b1 : decide (t411 = t413) = true := by simpa using c107))
           (try (have c107b2 : (t411 == t413) = true := by simpa using c107))
           clear c107
           repeat
             fail_if_success (with_reducible show wpList _ _ _ (⟨some 339, _, _, _, _, _⟩ :: _) _ _)
             first | go_skip | go_guarded | go_step | go_upon | go_back | dsimp only
           by_cases c112 : t410 = t412
           ·rw [if_pos c112] at H
            have c112b0 : (t410 == t412) = true := beq_iff_eq.mpr c112
            have c112b1 : (t410 != t412) = false := bne_eq_false_iff_eq.mpr c112
            clear c112
            repeat
              fail_if_success (with_reducible show wpList _ _ _ (⟨some 344, _, _, _, _, _⟩ :: _) _ _)
              first | go_skip | go_guarded | go_step | go_upon | go_back | dsimp only
            by_cases c113 : (t415 != t417) = true
            ·rw [if_pos c113] at H
             have c113b0 : (t415 != t417) = true := c113
             (try (have c113b1 : decide (t415 = t417) = false := by simpa using c113))
             (try (have c113b2 : (t415 == t417) = false := by simpa using c113))
             (try (have c113b3 : ¬ (t415 = t417) := by simpa using c113))
             clear c113
             have H' := Aside0.mk H
             clear H
             repeat
               fail_if_success (with_reducible show wpList _ _ _ (⟨some 349, _, _, _, _, _⟩ :: _) _ _)
               first | go_skip | go_guarded | go_step | go_upon | go_back | dsimp only
             with_reducible refine tl_of 348 [0, 0, 0, 1, 1, 0, 0, 0, 1, 1, 0, 0, 0, 1, 1, 0, 0, 0, 1, 1, 0, 0, 0, 1, 1, 0, 0, 0, 0, 0, 0, 0, 1] (by kernel_rfl) (by kernel_rfl) (by kernel_rfl) ?_
             go_step
             go_step
             go_meet
             case rel => exact ⟨_, (true), Za, H', ⟨by have := HJ7.out; have := HJ15.out; have := HJ34.out; first | omega | exact Nat.le_refl _⟩, ⟨RS (Kd.R_mono HO391.out (fun _ hk => hk.1.2))⟩, ⟨RS (Kd.R_mono HO405.out (fun _ hk => hk.1.1.2))⟩, ⟨BS HB.out⟩⟩
            ·rw [if_neg c113] at H
             have c113b0 : (t415 != t417) = false := by simpa using c113
             (try (have c113b1 : decide (t415 = t417) = true := by simpa using c113))
             (try (have c113b2 : (t415 == t417) = true := by simpa using c113))
             clear c113
             repeat
               fail_if_success (with_reducible show wpList _ _ _ (⟨some 349, _, _, _, _, _⟩ :: _) _ _)
               first | go_skip | go_guarded | go_step | go_upon | go_back | dsimp only
             by_cases c118 : t414 = t416
             ·rw [if_pos c118] at H
              have c118b0 : (t414 == t416) = true := beq_iff_eq.mpr c118
              have c118b1 : (t414 != t416) = false := bne_eq_false_iff_eq.mpr c118
              clear c118
              repeat
                fail_if_success (with_reducible show wpList _ _ _ (⟨some 354, _, _, _, _, _⟩ :: _) _ _)
                first | go_skip | go_guarded | go_step | go_upon | go_back | dsimp only
              by_cases c119 : (t419 != t421) = true
              ·rw [if_pos c119] at H
               have c119b0 : (t419 != t421) = true := c119
               (try (have c119b1 : decide (t419 = t421) = false := by simpa using c119))
               (try (have c119b2 : (t419 == t421) = false := by simpa using c119))
               (try (have c119b3 : ¬ (t419 = t421) := by simpa using c119))
               clear c119
               have H' := Aside0.mk H
               clear H
               repeat
                 fail_if_success (with_reducible show wpList _ _ _ (⟨some 359, _, _, _, _, _⟩ :: _) _ _)
                 first | go_skip | go_guarded | go_step | go_upon | go_back | dsimp only
               with_reducible refine tl_of 358 [0, 0, 0, 1, 1, 0, 0, 0, 1, 1, 0, 0, 0, 1, 1, 0, 0, 0, 0, 0, 0, 0, 1] (by kernel_rfl) (by kernel_rfl) (by kernel_rfl) ?_
               go_step
               go_step
               go_meet
               case rel => exact ⟨_, (true), Za, H', ⟨by have := HJ7.out; have := HJ15.out; have := HJ34.out; first | omega | exact Nat.le_refl _⟩, ⟨RS (Kd.R_mono HO391.out (fun _ hk => hk.1.2))⟩, ⟨RS (Kd.R_mono HO405.out (fun _ hk => hk.1.1.2))⟩, ⟨BS HB.out⟩⟩
              ·rw [if_neg c119] at H
               have c119b0 : (t419 != t421) = false := by simpa using c119
               (try (have c119b1 : decide (t419 = t421) = true := by simpa using c119))
               (try (have c119b2 : (t419 == t421) = true := by simpa using c119))
               clear c119
               repeat
                 fail_if_success (with_reducible show wpList _ _ _ (⟨some 359, _, _, _, _, _⟩ :: _) _ _)
                 first | go_skip | go_guarded | go_step | go_upon | go_back | dsimp only
               by_cases c124 : t418 = t420
               ·rw [if_pos c124] at H
                have c124b0 : (t418 == t420) = true := beq_iff_eq.mpr c124
                have c124b1 : (t418 != t420) = false := bne_eq_false_iff_eq.mpr c124
                clear c124
                repeat
                  fail_if_success (with_reducible show wpList _ _ _ (⟨some 364, _, _, _, _, _⟩ :: _) _ _)
                  first | go_skip | go_guarded | go_step | go_upon | go_back | dsimp only
                by_cases c125 : (t398 != t389) = true
                ·rw [if_pos c125] at H
                 have c125b0 : (t398 != t389) = true := c125
                 (try (have c125b1 : decide (t398 = t389) = false := by simpa using c125))
                 (try (have c125b2 : (t398 == t389) = false := by simpa using c125))
                 (try (have c125b3 : ¬ (t398 = t389) := by simpa using c125))
                 clear c125
                 have H' := Aside0.mk H
                 clear H
                 repeat
                   fail_if_success (with_reducible show wpList _ _ _ (⟨some 369, _, _, _, _, _⟩ :: _) _ _)
                   first | go_skip | go_guarded | go_step | go_upon | go_back | dsimp only
                 with_reducible refine tl_of 368 [0, 0, 0, 1, 1, 0, 0, 0, 0, 0, 0, 0, 1] (by kernel_rfl) (by kernel_rfl) (by kernel_rfl) ?_
                 go_step
                 go_step
                 go_meet
                 case rel => exact ⟨_, (true), Za, H', ⟨by have := HJ7.out; have := HJ15.out; have := HJ34.out; first | omega | exact Nat.le_refl _⟩, ⟨RS (Kd.R_mono HO391.out (fun _ hk => hk.1.2))⟩, ⟨RS (Kd.R_mono HO405.out (fun _ hk => hk.1.1.2))⟩, ⟨BS HB.out⟩⟩
                ·rw [if_neg c125] at H
                 have c125b0 : (t398 != t389) = false := by simpa using c125
                 (try (have c125b1 : decide (t398 = t389) = true := by simpa using c125))
                 (try (have c125b2 : (t398 == t389) = true := by simpa using c125))
                 clear c125
                 repeat
                   fail_if_success (with_reducible show wpList _ _ _ (⟨some 369, _, _, _, _, _⟩ :: _) _ _)
                   first | go_skip | go_guarded | go_step | go_upon | go_back | dsimp only
                 by_cases c130 : (t411 != t403) = true
                 ·rw [if_pos c130] at H
                  have c130b0 : (t411 != t403) = true := c130
                  (try (have c130b1 : decide (t411 = t403) = false := by simpa using c130))
                  (try (have c130b2 : (t411 == t403) = false := by simpa using c130))
                  (try (have c130b3 : ¬ (t411 = t403) := by simpa using c130))
                  clear c130
                  have H' := Aside0.mk H
                  clear H
                  repeat
                    fail_if_success (with_reducible show wpList _ _ _ (⟨some 374, _, _, _, _, _⟩ :: _) _ _)
                    first | go_skip | go_guarded | go_step | go_upon | go_back | dsimp only
                  with_reducible refine tl_of 373 [0, 0, 0, 0, 0, 0, 0, 1] (by kernel_rfl) (by kernel_rfl) (by kernel_rfl) ?_
                  go_step
                  go_step
                  go_meet
                  case rel => exact ⟨_, (true), Za, H', ⟨by have := HJ7.out; have := HJ15.out; have := HJ34.out; first | omega | exact Nat.le_refl _⟩, ⟨RS (Kd.R_mono HO391.out (fun _ hk => hk.1.2))⟩, ⟨RS (Kd.R_mono HO405.out (fun _ hk => hk.1.1.2))⟩, ⟨BS HB.out⟩⟩
                 ·rw [if_neg c130] at H
                  have c130b0 : (t411 != t403) = false := by simpa using c130
                  (try (have c130b1 : decide (t411 = t403) = true := by simpa using c130))
                  (try (have c130b2 : (t411 == t403) = true := by simpa using c130))
                  clear c130
                  repeat
                    fail_if_success (with_reducible show wpList _ _ _ (⟨some 374, _, _, _, _, _⟩ :: _) _ _)
                    first | go_skip | go_guarded | go_step | go_upon | go_back | dsimp only
                  by_cases c135 : t415 = true
                  ·subst c135
                   have H1 : (laws_FnStepsMendedOfAll.j6 kj34 l3 a4 l5 a6 t388 t389 t396 t397 t402 t403 t410 t418 t419 (t403 != (decide (t414 > 0)))) = some r := by rw [if_pos rfl] at H; exact H
                   clear H
                   have H := H1
                   clear H1
                   have H' := Aside0.mk H
                   clear H
                   go_wp2_with (first | (go_at_call 22; (with_reducible refine (laws_wSame.calls kj34 _ _ t388 _ _ t392 true _ ?side1 ?side2 ?side3 ?side4 A95.out).mono ?_); (case side1 => exact CS (Kd.R_reads' HO391.out).2.2); (case side2 => exact (Kd.R_reads' HO391.out).2.1); (case side3 => exact CS (Kd.R_reads' HO395.out).2.2); (case side4 => exact (Kd.R_reads' HO395.out).2.1); rintro e w' ⟨rfl, ⟨nd, rfl⟩⟩; obtain ⟨Ao138, co138, eo138⟩ := Kd.R_slice HO405.out; subst eo138; obtain ⟨Ao139, co139, eo139⟩ := Kd.R_slice HO409.out; subst eo139) | (go_at_call 22; (with_reducible refine (laws_wSame.calls kj34 _ _ t402 _ _ t406 true _ ?side1 ?side2 ?side3 ?side4 A105.out).mono ?_); (case side1 => exact CS (Kd.R_reads' HO405.out).2.2); (case side2 => exact (Kd.R_reads' HO405.out).2.1); (case side3 => exact CS (Kd.R_reads' HO409.out).2.2); (case side4 => exact (Kd.R_reads' HO409.out).2.1); rintro e w' ⟨rfl, ⟨nd, rfl⟩⟩))
                   go_meet
                   case rel => exact ⟨_, ((t403 != (decide (t414 > 0)))), Za, H', ⟨by have := HJ7.out; have := HJ15.out; have := HJ34.out; first | omega | exact Nat.le_refl _⟩, ⟨RS (Kd.R_mono HO391.out (fun _ hk => hk.1.2))⟩, ⟨RS (Kd.R_mono HO405.out (fun _ hk => hk.1.1.2))⟩, ⟨BS HB.out⟩⟩
                  ·replace c135 := Bool.eq_false_iff.mpr c135
                   subst c135
                   have H1 : (laws_FnStepsMendedOfAll.j6 kj34 l3 a4 l5 a6 t388 t389 t396 t397 t402 t403 t410 t418 t419 false) = some r := by rw [if_neg (show ¬ (false = true) by decide)] at H; exact H
                   clear H
                   have H := H1
                   clear H1
                   have H' := Aside0.mk H
                   clear H
                   go_wp2_with (first | (go_at_call 22; (with_reducible refine (laws_wSame.calls kj34 _ _ t388 _ _ t392 true _ ?side1 ?side2 ?side3 ?side4 A95.out).mono ?_); (case side1 => exact CS (Kd.R_reads' HO391.out).2.2); (case side2 => exact (Kd.R_reads' HO391.out).2.1); (case side3 => exact CS (Kd.R_reads' HO395.out).2.2); (case side4 => exact (Kd.R_reads' HO395.out).2.1); rintro e w' ⟨rfl, ⟨nd, rfl⟩⟩; obtain ⟨Ao142, co142, eo142⟩ := Kd.R_slice HO405.out; subst eo142; obtain ⟨Ao143, co143, eo143⟩ := Kd.R_slice HO409.out; subst eo143) | (go_at_call 22; (with_reducible refine (laws_wSame.calls kj34 _ _ t402 _ _ t406 true _ ?side1 ?side2 ?side3 ?side4 A105.out).mono ?_); (case side1 => exact CS (Kd.R_reads' HO405.out).2.2); (case side2 => exact (Kd.R_reads' HO405.out).2.1); (case side3 => exact CS (Kd.R_reads' HO409.out).2.2); (case side4 => exact (Kd.R_reads' HO409.out).2.1); rintro e w' ⟨rfl, ⟨nd, rfl⟩⟩))
                   go_meet
                   case rel => exact ⟨_, (false), Za, H', ⟨by have := HJ7.out; have := HJ15.out; have := HJ34.out; first | omega | exact Nat.le_refl _⟩, ⟨RS (Kd.R_mono HO391.out (fun _ hk => hk.1.2))⟩, ⟨RS (Kd.R_mono HO405.out (fun _ hk => hk.1.1.2))⟩, ⟨BS HB.out⟩⟩
               ·rw [if_neg c124] at H
                have c124b0 : (t418 == t420) = false := beq_eq_false_iff_ne.mpr c124
                have c124b1 : (t418 != t420) = true := bne_iff_ne.mpr c124
                have H' := Aside0.mk H
                clear H
                repeat
                  fail_if_success (with_reducible show wpList _ _ _ (⟨some 364, _, _, _, _, _⟩ :: _) _ _)
                  first | go_skip | go_guarded | go_step | go_upon | go_back | dsimp only
                with_reducible refine tl_of 363 [0, 0, 0, 1, 1, 0, 0, 0, 1, 1, 0, 0, 0, 0, 0, 0, 0, 1] (by kernel_rfl) (by kernel_rfl) (by kernel_rfl) ?_
                go_step
                go_step
                go_meet
                case rel => exact ⟨_, (true), Za, H', ⟨by have := HJ7.out; have := HJ15.out; have := HJ34.out; first | omega | exact Nat.le_refl _⟩, ⟨RS (Kd.R_mono HO391.out (fun _ hk => hk.1.2))⟩, ⟨RS (Kd.R_mono HO405.out (fun _ hk => hk.1.1.2))⟩, ⟨BS HB.out⟩⟩
             ·rw [if_neg c118] at H
              have c118b0 : (t414 == t416) = false := beq_eq_false_iff_ne.mpr c118
              have c118b1 : (t414 != t416) = true := bne_iff_ne.mpr c118
              have H' := Aside0.mk H
              clear H
              repeat
                fail_if_success (with_reducible show wpList _ _ _ (⟨some 354, _, _, _, _, _⟩ :: _) _ _)
                first | go_skip | go_guarded | go_step | go_upon | go_back | dsimp only
              with_reducible refine tl_of 353 [0, 0, 0, 1, 1, 0, 0, 0, 1, 1, 0, 0, 0, 1, 1, 0, 0, 0, 1, 1, 0, 0, 0, 0, 0, 0, 0, 1] (by kernel_rfl) (by kernel_rfl) (by kernel_rfl) ?_
              go_step
              go_step
              go_meet
              case rel => exact ⟨_, (true), Za, H', ⟨by have := HJ7.out; have := HJ15.out; have := HJ34.out; first | omega | exact Nat.le_refl _⟩, ⟨RS (Kd.R_mono HO391.out (fun _ hk => hk.1.2))⟩, ⟨RS (Kd.R_mono HO405.out (fun _ hk => hk.1.1.2))⟩, ⟨BS HB.out⟩⟩
           ·rw [if_neg c112] at H
            have c112b0 : (t410 == t412) = false := beq_eq_false_iff_ne.mpr c112
            have c112b1 : (t410 != t412) = true := bne_iff_ne.mpr c112
            have H' := Aside0.mk H
            clear H
            repeat
              fail_if_success (with_reducible show wpList _ _ _ (⟨some 344, _, _, _, _, _⟩ :: _) _ _)
              first | go_skip | go_guarded | go_step | go_upon | go_back | dsimp only
            with_reducible refine tl_of 343 [0, 0, 0, 1, 1, 0, 0, 0, 1, 1, 0, 0, 0, 1, 1, 0, 0, 0, 1, 1, 0, 0, 0, 1, 1, 0, 0, 0, 1, 1, 0, 0, 0, 0, 0, 0, 0, 1] (by kernel_rfl) (by kernel_rfl) (by kernel_rfl) ?_
            go_step
            go_step
            go_meet
            case rel => exact ⟨_, (true), Za, H', ⟨by have := HJ7.out; have := HJ15.out; have := HJ34.out; first | omega | exact Nat.le_refl _⟩, ⟨RS (Kd.R_mono HO391.out (fun _ hk => hk.1.2))⟩, ⟨RS (Kd.R_mono HO405.out (fun _ hk => hk.1.1.2))⟩, ⟨BS HB.out⟩⟩
         ·replace c106 := Bool.eq_false_iff.mpr c106
          subst c106
          have H1 : (laws_FnStepsMendedOfAll.j6 kj34 l3 a4 l5 a6 t388 t389 t396 t397 t402 t403 t410 t418 t419 true) = some r := by rw [if_neg (show ¬ (false = true) by decide)] at H; exact H
          clear H
          have H := H1
          clear H1
          have H' := Aside0.mk H
          clear H
          obtain ⟨Ao158, co158, eo158⟩ := Kd.R_slice HO405.out
          subst eo158
          obtain ⟨Ao159, co159, eo159⟩ := Kd.R_slice HO409.out
          subst eo159
          repeat
            fail_if_success (with_reducible show wpList _ _ _ (⟨some 334, _, _, _, _, _⟩ :: _) _ _)
            first | (first | (go_at_call 22; (with_reducible refine (laws_wSame.calls kj34 _ _ t388 _ _ t392 true _ ?side1 ?side2 ?side3 ?side4 A95.out).mono ?_); (case side1 => exact CS (Kd.R_reads' HO391.out).2.2); (case side2 => exact (Kd.R_reads' HO391.out).2.1); (case side3 => exact CS (Kd.R_reads' HO395.out).2.2); (case side4 => exact (Kd.R_reads' HO395.out).2.1); rintro e w' ⟨rfl, ⟨nd, rfl⟩⟩) | (go_at_call 22; (with_reducible refine (laws_wSame.calls kj34 _ _ t402 _ _ t406 false _ ?side1 ?side2 ?side3 ?side4 A105.out).mono ?_); (case side1 => exact CS (Kd.R_reads' HO405.out).2.2); (case side2 => exact (Kd.R_reads' HO405.out).2.1); (case side3 => exact CS (Kd.R_reads' HO409.out).2.2); (case side4 => exact (Kd.R_reads' HO409.out).2.1); rintro e w' ⟨rfl, ⟨nd, rfl⟩⟩)) | go_skip | go_guarded | go_step | go_upon | go_back | dsimp only
          with_reducible refine tl_of 333 [0, 0, 0, 1, 1, 0, 0, 0, 1, 1, 0, 0, 0, 1, 1, 0, 0, 0, 1, 1, 0, 0, 0, 1, 1, 0, 0, 0, 1, 1, 0, 0, 0, 1, 1, 0, 0, 0, 1, 1, 0, 0, 0, 0, 0, 0, 0, 1] (by kernel_rfl) (by kernel_rfl) (by kernel_rfl) ?_
          go_step
          go_step
          go_meet
          case rel => exact ⟨_, (true), Za, H', ⟨by have := HJ7.out; have := HJ15.out; have := HJ34.out; first | omega | exact Nat.le_refl _⟩, ⟨RS (Kd.R_mono HO391.out (fun _ hk => hk.1.2))⟩, ⟨RS (Kd.R_mono HO405.out (fun _ hk => hk.1.1.2))⟩, ⟨BS HB.out⟩⟩
       ·rw [if_neg c101] at H
        have c101b0 : (t397 == t400) = false := beq_eq_false_iff_ne.mpr c101
        have c101b1 : (t397 != t400) = true := bne_iff_ne.mpr c101
        have H' := Aside0.mk H
        clear H
        repeat
          fail_if_success (with_reducible show wpList _ _ _ (⟨some 323, _, _, _, _, _⟩ :: _) _ _)
          first | go_skip | go_guarded | go_step | go_upon | go_back | dsimp only
        with_reducible refine tl_of 322 [0, 0, 0, 1, 1, 0, 0, 0, 0, 1, 1, 0, 0, 0, 1, 1, 0, 0, 0, 1, 1, 0, 0, 0, 1, 1, 0, 0, 0, 1, 1, 0, 0, 0, 1, 1, 0, 0, 0, 1, 1, 0, 0, 0, 1, 1, 0, 0, 0, 1, 1, 0, 0, 0, 0, 0, 0, 0, 1] (by kernel_rfl) (by kernel_rfl) (by kernel_rfl) ?_
        go_step
        go_step
        go_meet
        case rel => exact ⟨_, (true), Za, H', ⟨by have := HJ7.out; have := HJ15.out; have := HJ34.out; first | omega | exact Nat.le_refl _⟩, ⟨RS (Kd.R_mono HO391.out (fun _ hk => hk.1.2))⟩, ⟨RS (Kd.R_mono HO405.out (fun _ hk => hk.1.1.2))⟩, ⟨BS HB.out⟩⟩
      ·rw [if_neg c100] at H
       have c100b0 : (t396 == t399) = false := beq_eq_false_iff_ne.mpr c100
       have c100b1 : (t396 != t399) = true := bne_iff_ne.mpr c100
       have H' := Aside0.mk H
       clear H
       repeat
         fail_if_success (with_reducible show wpList _ _ _ (⟨some 318, _, _, _, _, _⟩ :: _) _ _)
         first | go_skip | go_guarded | go_step | go_upon | go_back | dsimp only
       with_reducible refine tl_of 317 [0, 0, 0, 1, 1, 0, 0, 0, 1, 1, 0, 0, 0, 0, 1, 1, 0, 0, 0, 1, 1, 0, 0, 0, 1, 1, 0, 0, 0, 1, 1, 0, 0, 0, 1, 1, 0, 0, 0, 1, 1, 0, 0, 0, 1, 1, 0, 0, 0, 1, 1, 0, 0, 0, 1, 1, 0, 0, 0, 0, 0, 0, 0, 1] (by kernel_rfl) (by kernel_rfl) (by kernel_rfl) ?_
       go_step
       go_step
       go_meet
       case rel => exact ⟨_, (true), Za, H', ⟨by have := HJ7.out; have := HJ15.out; have := HJ34.out; first | omega | exact Nat.le_refl _⟩, ⟨RS (Kd.R_mono HO391.out (fun _ hk => hk.1.2))⟩, ⟨RS (Kd.R_mono HO405.out (fun _ hk => hk.1.1.2))⟩, ⟨BS HB.out⟩⟩
    ·replace c96 := Bool.eq_false_iff.mpr c96
     subst c96
     have H1 : (laws_FnStepsMendedOfAll.j6 kj34 l3 a4 l5 a6 t388 t389 t396 t397 t402 t403 t410 t418 t419 true) = some r := by rw [if_neg (show ¬ (false = true) by decide)] at H; exact H
     clear H
     have H := H1
     clear H1
     have H' := Aside0.mk H
     clear H
     obtain ⟨Ao164, co164, eo164⟩ := Kd.R_slice HO391.out
     subst eo164
     obtain ⟨Ao165, co165, eo165⟩ := Kd.R_slice HO395.out
     subst eo165
     repeat
       fail_if_success (with_reducible show wpList _ _ _ (⟨some 308, _, _, _, _, _⟩ :: _) _ _)
       first | (first | (go_at_call 22; (with_reducible refine (laws_wSame.calls kj34 _ _ t388 _ _ t392 false _ ?side1 ?side2 ?side3 ?side4 A95.out).mono ?_); (case side1 => exact CS (Kd.R_reads' HO391.out).2.2); (case side2 => exact (Kd.R_reads' HO391.out).2.1); (case side3 => exact CS (Kd.R_reads' HO395.out).2.2); (case side4 => exact (Kd.R_reads' HO395.out).2.1); rintro e w' ⟨rfl, ⟨nd, rfl⟩⟩)) | go_skip | go_guarded | go_step | go_upon | go_back | dsimp only
     with_reducible refine tl_of 307 [0, 0, 0, 1, 1, 0, 0, 0, 1, 1, 0, 0, 0, 1, 1, 0, 0, 0, 1, 1, 0, 0, 0, 0, 1, 1, 0, 0, 0, 1, 1, 0, 0, 0, 1, 1, 0, 0, 0, 1, 1, 0, 0, 0, 1, 1, 0, 0, 0, 1, 1, 0, 0, 0, 1, 1, 0, 0, 0, 1, 1, 0, 0, 0, 1, 1, 0, 0, 0, 0, 0, 0, 0, 1] (by kernel_rfl) (by kernel_rfl) (by kernel_rfl) ?_
     go_step
     go_step
     go_meet
     case rel => exact ⟨_, (true), Za, H', ⟨by have := HJ7.out; have := HJ15.out; have := HJ34.out; first | omega | exact Nat.le_refl _⟩, ⟨RS (Kd.R_mono HO391.out (fun _ hk => hk.1.2))⟩, ⟨RS (Kd.R_mono HO405.out (fun _ hk => hk.1.1.2))⟩, ⟨BS HB.out⟩⟩
  case rest =>
   go_step
   exact laws_FnStepsMendedOfAll.stage1 _ _ _ _ _ _ _ _ _ _ _ _ _ _ _ _ _ _ _ _ _ _ _ _ _ _ _ _ _ _ _ _ _ _ _ _ _ _ _ _ _ _ _ _ _ _ _ _ _ _ _ _ _ _ _ _ _ _ _ _ _ _ _ _ _ _ _ _ _ _ _ _ _ _ _ _ _ _ _ _ _ _ _ _ _ _ _ _ _ _ _ _ _ _ _ _ _ _ _ _ _ _ _ _ _ _ _ _ _ _ _ _ _ _ _ _ _ _ _ _ _ _ _ _ _ _ _ _ _ _ _ _ _ _ _ _ _ _ _ _ _ _ _ _ _ _ _ _ _ _ _ _ _ _ _ _ _ _ _ _ _ _ _ _ _ _ _ _ _ _ _ _ _ _ _ _ _ _ _ _ _ _ _ _ _ _ _ _ _ _ _ _ _ _ _ _ _ _ _ _ _ _ _ _ _ _ _ _ _ _ _ _ _ _ _ _ _ _ _ _ _ _ _ _ _ _ _ _ _ _ _ _ _ _ _ _ _ _ _ _ _ _ _ _ _ _ _ _ _ _ _ _ _ _ _ _ _ _ _ _ _ _ _ _ _ _ _ _ _ _ _ _ _ _ _ _ _ HR3 HC3 HR5 HC5 HJ7 HJ15 HJ34 HC81 HB hcut _ (by intro a_ w_ h_; go_step; exact h_)
end Go.Proofs.Ytbeokaghdagabaa.PFnStepsMendedOfAll
