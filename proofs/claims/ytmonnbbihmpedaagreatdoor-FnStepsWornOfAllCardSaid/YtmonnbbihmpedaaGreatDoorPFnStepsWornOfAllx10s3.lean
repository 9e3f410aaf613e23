-- Written by wip/gen/mp.py of this repo (the kit's printer with our own parts): functions and their contracts.
import Derived.Test.YtmonnbbihmpedaaGreatDoorPFnStepsWornOfAllx10s4
namespace Go.Proofs.YtmonnbbihmpedaaGreatDoor.PFnStepsWornOfAll
open Go.RowKit Go.Proofs.YtmonnbbihmpedaaGreatDoorW.PrintWords Go.Proofs.YtmonnbbihmpedaaGreatDoorW.PrintLast Go.Proofs.YtmonnbbihmpedaaGreatDoorW.PrintMore
attribute [local go_sem] yielded_undef max2_int min2_int max_two min_two max_three min_three max_four min_four   -- for this text's walks alone
set_option linter.unusedVariables false
set_option linter.unusedSimpArgs false

/-! ### laws_FnStepsWornOfAll: function 3 -/
set_option maxHeartbeats 8000000 in
set_option maxRecDepth 100000 in
theorem laws_FnStepsWornOfAll.stage3 (k c0 c2 c3 c5 c7 c8 kj12 kj26 kj74 : Nat) (A0 A2 A3 A5 A7 A8 : Option Addr) (l0 l2 l3 l5 l8 t363 t367 t371 t375 t393 t397 t401 t405 : List Int) (a1 a4 a6 a9 a10 t336 t338 t357 t358 t360 t361 t379 t380 t382 t383 t385 t387 : Int) (P5_ : Nat → Prop) (l7 : List (List Int)) (a11 t389 t391 : ByteArray) (r t327 t329 t332 t333 t334 t335 t337 t339 t359 t362 t364 t368 t372 t376 t381 t384 t386 t388 t390 t392 t394 t398 t402 t406 : Bool) (w w147 : World) (ba bb bc bd be bf bg bh bi bj bk bl bm bn bo bp bq br bs bt bu bv bw bx bz b0 b1 b2 b3 b4 b5 b6 v325 v330 b7 b8 b9 bA bB bC bD bE bF bG bH bI bJ bK bL bM bN bO bP bQ bR bS bT bU bV bW bX bY bZ da db dc dd de df dg dh di dj dk dl dm dn dp dq dr ds dt du dv dw dx dy dz d0 d1 d2 d3 d4 d5 d6 d7 d8 d9 dA dB dC dD dE dF dG dH dI dJ dK dL dM dN dO dP dQ dR dS dT dU dV dW dX dY dZ ea eb ec ed ee ef eg eh ei ej ek el em en eo ep eq er es et eu ev ew ex ey ez e0 e1 e2 e3 e4 e5 e6 e7 e8 e9 eA eB eC eD eE eF eG v365 v369 v373 v377 v395 v399 v403 v407 eH eI eJ eK eL eM eN eO eP eQ eR eS eT eU eV eW eX eY eZ fa fb fc fd fe ff fg fh fi fj fk fl fm fn fo fp fq fr fs ft fu fv fw fx fy fz f0 f1 f2 f3 f4 f5 f6 f7 f8 f9 fA fB fC fD fE fF fG fH fI fJ fK fL fM fN fO fP fQ fR fS fT fU fV fW fX fY fZ ga gb gc gd ge gf gg gh gi gj gl gm gn go gp gq gr gs gt gu gv gw gx gy gz g0 g1 g2 g3 g4 g5 g6 g7 g8 g9 gA gB gC gD gE gF gG gH gI gJ gK gL gM gN gO gP gQ gR gS gT gU gV : Value) (htb : TBB w) (HR3 : Aside0 ((Kd.int IntKind.i64).C w A3 l3.length l3)) (HC3 : Aside0 (l3.length ≤ c3)) (HR7 : Aside0 ((Kd.slice 3 (Kd.int IntKind.i64)).C w A7 l7.length l7)) (HR8 : Aside0 ((Kd.int IntKind.i64).C w A8 l8.length l8)) (HC8 : Aside0 (l8.length ≤ c8)) (HJ12 : Aside0 (kj12 + 1 ≤ k)) (HJ26 : Aside0 (kj26 + 1 ≤ kj12)) (HJ74 : Aside0 (kj74 + 1 ≤ kj26)) (HC132 : Aside0 ((if (t359 != t362) = true then j5 kj74 l3 a4 l5 a6 l7 l8 a9 a10 a11 t357 t358 t359 t363 t371 t372 t379 t380 t381 t385 t389 t390 t393 t401 t402 true else if t357 = t360 then if t358 = t361 then if (t364 != t368) = true then j5 kj74 l3 a4 l5 a6 l7 l8 a9 a10 a11 t357 t358 t359 t363 t371 t372 t379 t380 t381 t385 t389 t390 t393 t401 t402 true else (laws_wSame.f kj74 t363 t367).bind fun (t409 : Bool) => if t409 = true then if (t372 != t376) = true then j5 kj74 l3 a4 l5 a6 l7 l8 a9 a10 a11 t357 t358 t359 t363 t371 t372 t379 t380 t381 t385 t389 t390 t393 t401 t402 true else (laws_wSame.f kj74 t371 t375).bind fun (t410 : Bool) => if t410 = true then if (t381 != t384) = true then j5 kj74 l3 a4 l5 a6 l7 l8 a9 a10 a11 t357 t358 t359 t363 t371 t372 t379 t380 t381 t385 t389 t390 t393 t401 t402 true else if t379 = t382 then if t380 = t383 then if (t386 != t388) = true then j5 kj74 l3 a4 l5 a6 l7 l8 a9 a10 a11 t357 t358 t359 t363 t371 t372 t379 t380 t381 t385 t389 t390 t393 t401 t402 true else if t385 = t387 then if (t390 != t392) = true then j5 kj74 l3 a4 l5 a6 l7 l8 a9 a10 a11 t357 t358 t359 t363 t371 t372 t379 t380 t381 t385 t389 t390 t393 t401 t402 true else if t389.toList = t391.toList then if (t394 != t398) = true then j5 kj74 l3 a4 l5 a6 l7 l8 a9 a10 a11 t357 t358 t359 t363 t371 t372 t379 t380 t381 t385 t389 t390 t393 t401 t402 true else (laws_wSame.f kj74 t393 t397).bind fun (t411 : Bool) => if t411 = true then if (t402 != t406) = true then j5 kj74 l3 a4 l5 a6 l7 l8 a9 a10 a11 t357 t358 t359 t363 t371 t372 t379 t380 t381 t385 t389 t390 t393 t401 t402 true else (laws_wSame.f kj74 t401 t405).bind fun (t412 : Bool) => if t412 = true then if (t364 != t359) = true then j5 kj74 l3 a4 l5 a6 l7 l8 a9 a10 a11 t357 t358 t359 t363 t371 t372 t379 t380 t381 t385 t389 t390 t393 t401 t402 true else if (t386 != t390) = true then j5 kj74 l3 a4 l5 a6 l7 l8 a9 a10 a11 t357 t358 t359 t363 t371 t372 t379 t380 t381 t385 t389 t390 t393 t401 t402 true else if (t394 != t390) = true then j5 kj74 l3 a4 l5 a6 l7 l8 a9 a10 a11 t357 t358 t359 t363 t371 t372 t379 t380 t381 t385 t389 t390 t393 t401 t402 true else (impl_AreBears.f kj74 l3).bind fun (t413 : Bool) => j5 kj74 l3 a4 l5 a6 l7 l8 a9 a10 a11 t357 t358 t359 t363 t371 t372 t379 t380 t381 t385 t389 t390 t393 t401 t402 (t390 != t413) else j5 kj74 l3 a4 l5 a6 l7 l8 a9 a10 a11 t357 t358 t359 t363 t371 t372 t379 t380 t381 t385 t389 t390 t393 t401 t402 true else j5 kj74 l3 a4 l5 a6 l7 l8 a9 a10 a11 t357 t358 t359 t363 t371 t372 t379 t380 t381 t385 t389 t390 t393 t401 t402 true else j5 kj74 l3 a4 l5 a6 l7 l8 a9 a10 a11 t357 t358 t359 t363 t371 t372 t379 t380 t381 t385 t389 t390 t393 t401 t402 true else j5 kj74 l3 a4 l5 a6 l7 l8 a9 a10 a11 t357 t358 t359 t363 t371 t372 t379 t380 t381 t385 t389 t390 t393 t401 t402 true else j5 kj74 l3 a4 l5 a6 l7 l8 a9 a10 a11 t357 t358 t359 t363 t371 t372 t379 t380 t381 t385 t389 t390 t393 t401 t402 true else j5 kj74 l3 a4 l5 a6 l7 l8 a9 a10 a11 t357 t358 t359 t363 t371 t372 t379 t380 t381 t385 t389 t390 t393 t401 t402 true else j5 kj74 l3 a4 l5 a6 l7 l8 a9 a10 a11 t357 t358 t359 t363 t371 t372 t379 t380 t381 t385 t389 t390 t393 t401 t402 true else j5 kj74 l3 a4 l5 a6 l7 l8 a9 a10 a11 t357 t358 t359 t363 t371 t372 t379 t380 t381 t385 t389 t390 t393 t401 t402 true else j5 kj74 l3 a4 l5 a6 l7 l8 a9 a10 a11 t357 t358 t359 t363 t371 t372 t379 t380 t381 t385 t389 t390 t393 t401 t402 true else j5 kj74 l3 a4 l5 a6 l7 l8 a9 a10 a11 t357 t358 t359 t363 t371 t372 t379 t380 t381 t385 t389 t390 t393 t401 t402 true) = some r)) (HO_5 : Aside0 ((Kd.int IntKind.i64).V 3 w147 w.heap.size (fun (k : Nat) => ((((((((P5_ k ∨ w.heap.size ≤ k) ∧ some k ≠ v365.ownBlock) ∧ some k ≠ v369.ownBlock) ∧ some k ≠ v373.ownBlock) ∧ some k ≠ v377.ownBlock) ∧ some k ≠ v395.ownBlock) ∧ some k ≠ v399.ownBlock) ∧ some k ≠ v403.ownBlock) ∧ some k ≠ v407.ownBlock) (Value.slice A5 l5.length c5) l5)) (HO366 : Aside0 ((Kd.int IntKind.i64).R 3 w147 w.heap.size (fun (k : Nat) => (((((((w.heap.size ≤ k ∧ True) ∧ some k ≠ v369.ownBlock) ∧ some k ≠ v373.ownBlock) ∧ some k ≠ v377.ownBlock) ∧ some k ≠ v395.ownBlock) ∧ some k ≠ v399.ownBlock) ∧ some k ≠ v403.ownBlock) ∧ some k ≠ v407.ownBlock) v365 t363)) (HO370 : Aside0 ((Kd.int IntKind.i64).R 3 w147 w.heap.size (fun (k : Nat) => (((((((w.heap.size ≤ k ∧ True) ∧ some k ≠ v365.ownBlock) ∧ some k ≠ v373.ownBlock) ∧ some k ≠ v377.ownBlock) ∧ some k ≠ v395.ownBlock) ∧ some k ≠ v399.ownBlock) ∧ some k ≠ v403.ownBlock) ∧ some k ≠ v407.ownBlock) v369 t367)) (HO374 : Aside0 ((Kd.int IntKind.i64).R 3 w147 w.heap.size (fun (k : Nat) => (((((((w.heap.size ≤ k ∧ True) ∧ some k ≠ v365.ownBlock) ∧ some k ≠ v369.ownBlock) ∧ some k ≠ v377.ownBlock) ∧ some k ≠ v395.ownBlock) ∧ some k ≠ v399.ownBlock) ∧ some k ≠ v403.ownBlock) ∧ some k ≠ v407.ownBlock) v373 t371)) (HO378 : Aside0 ((Kd.int IntKind.i64).R 3 w147 w.heap.size (fun (k : Nat) => (((((((w.heap.size ≤ k ∧ True) ∧ some k ≠ v365.ownBlock) ∧ some k ≠ v369.ownBlock) ∧ some k ≠ v373.ownBlock) ∧ some k ≠ v395.ownBlock) ∧ some k ≠ v399.ownBlock) ∧ some k ≠ v403.ownBlock) ∧ some k ≠ v407.ownBlock) v377 t375)) (HO396 : Aside0 ((Kd.int IntKind.i64).R 3 w147 w.heap.size (fun (k : Nat) => (((((((w.heap.size ≤ k ∧ True) ∧ some k ≠ v365.ownBlock) ∧ some k ≠ v369.ownBlock) ∧ some k ≠ v373.ownBlock) ∧ some k ≠ v377.ownBlock) ∧ some k ≠ v399.ownBlock) ∧ some k ≠ v403.ownBlock) ∧ some k ≠ v407.ownBlock) v395 t393)) (HO400 : Aside0 ((Kd.int IntKind.i64).R 3 w147 w.heap.size (fun (k : Nat) => (((((((w.heap.size ≤ k ∧ True) ∧ some k ≠ v365.ownBlock) ∧ some k ≠ v369.ownBlock) ∧ some k ≠ v373.ownBlock) ∧ some k ≠ v377.ownBlock) ∧ some k ≠ v395.ownBlock) ∧ some k ≠ v403.ownBlock) ∧ some k ≠ v407.ownBlock) v399 t397)) (HO404 : Aside0 ((Kd.int IntKind.i64).R 3 w147 w.heap.size (fun (k : Nat) => (((((((w.heap.size ≤ k ∧ True) ∧ some k ≠ v365.ownBlock) ∧ some k ≠ v369.ownBlock) ∧ some k ≠ v373.ownBlock) ∧ some k ≠ v377.ownBlock) ∧ some k ≠ v395.ownBlock) ∧ some k ≠ v399.ownBlock) ∧ some k ≠ v407.ownBlock) v403 t401)) (HO408 : Aside0 ((Kd.int IntKind.i64).R 3 w147 w.heap.size (fun (k : Nat) => (((((((w.heap.size ≤ k ∧ True) ∧ some k ≠ v365.ownBlock) ∧ some k ≠ v369.ownBlock) ∧ some k ≠ v373.ownBlock) ∧ some k ≠ v377.ownBlock) ∧ some k ≠ v395.ownBlock) ∧ some k ≠ v399.ownBlock) ∧ some k ≠ v403.ownBlock) v407 t405)) (HB : Aside0 (Below w.heap.size w w147)) (K1_ K2_ : Act → World → Prop) (hK1_ : ∀ (a_ : Act) (w_ : World), Code.wp Tryz.prog (second_ (second_ (second_ (second_ (second_ (second_ (second_ (second_ (second_ (second_ (second_ (second_ (second_ (second_ (second_ (second_ (second_ (second_ (second_ (second_ (second_ (second_ (second_ (second_ (second_ (second_ (second_ (body_ Tryz.f3)))))))))))))))))))))))))))) (bodyPost Tryz.prog Tryz.f3 (fun e w' => e = .returned (.bool r) ∧ Below w.heap.size w w')) a_ w_ → K1_ a_ w_) (hK2_ : ∀ (a_ : Act) (w_ : World), Code.wp Tryz.prog (second_ (first_ (second_ (second_ (second_ (second_ (second_ (second_ (second_ (second_ (second_ (second_ (second_ (second_ (second_ (second_ (second_ (second_ (second_ (second_ (second_ (second_ (second_ (second_ (second_ (second_ (second_ (second_ (body_ Tryz.f3))))))))))))))))))))))))))))) (Exit.then K1_ (bodyPost Tryz.prog Tryz.f3 (fun e w' => e = .returned (.bool r) ∧ Below w.heap.size w w'))) a_ w_ → K2_ a_ w_) : Code.wp Tryz.prog (first_ (first_ (second_ (second_ (second_ (second_ (second_ (second_ (second_ (second_ (second_ (second_ (second_ (second_ (second_ (second_ (second_ (second_ (second_ (second_ (second_ (second_ (second_ (second_ (second_ (second_ (second_ (second_ (body_ Tryz.f3))))))))))))))))))))))))))))) (Exit.then K2_ (Exit.then K1_ (bodyPost Tryz.prog Tryz.f3 (fun e w' => e = .returned (.bool r) ∧ Below w.heap.size w w')))) { tmps := #[.slice A0 l0.length c0, .int .i64 a1, .slice A2 l2.length c2, .slice A3 l3.length c3, .int .i64 a4, .slice A5 l5.length c5, .int .i64 a6, .slice A7 l7.length c7, .slice A8 l8.length c8, .int .i64 a9, .int .i64 a10, .string a11, undef, undef, undef, undef, undef, undef, undef, undef, undef, undef, undef, undef, d8, v325, .bool t327, v330, .bool t329, .bool t332, .bool t333, .bool t334, .bool t335, .int .i64 t336, .bool t337, .int .i64 t338, .bool t339, d9, dA, dB, dC, .int .i64 t357, .int .i64 t358, .bool t359, .int .i64 t360, .int .i64 t361, .bool t362, v365, .bool t364, v369, .bool t368, v373, .bool t372, v377, .bool t376, .int .i64 t379, .int .i64 t380, .bool t381, .int .i64 t382, .int .i64 t383, .bool t384, .int .i64 t385, .bool t386, .int .i64 t387, .bool t388, .string t389, .bool t390, .string t391, .bool t392, v395, .bool t394, v399, .bool t398, v403, .bool t402, v407, .bool t406, undef, undef, undef, undef, undef, undef, undef, undef, undef, undef, undef, undef, undef, undef, undef, undef, undef, undef, undef, ba, bb, bc, bd, be, bf, bg, bh, bi, bj, bk, bl, bm, bn, bo, bp, bq, br, bs, bt, bu, bv, bw, bx, bz, b0, b1, b2, b3, b4, b5, b6, eH, eI, eJ, eK, eL, eM, eN, eO, eP, eQ, eR, eS, eT, eU, eV, eW, eX, eY, eZ, fa, fb, fc, fd, fe, ff, fg, fh, fi, fj, fk, fl, fm, fn, fo, fp, fq, fr, fs, ft, fu, fv, b7, b8, b9, bA, bB, bC, bD, bE, bF, bG, bH, bI, bJ, bK, bL, bM, bN, bO, bP, bQ, bR, bS, bT, bU, bV, bW, bX, bY, bZ, da, db, dc, dd, de, df, dg, dh, di, dj, dk, dl, dm, dn, dp, dq, dr, ds, dt, du, dv, dw, dx, dy, dz, d0, d1, d2, d3, d4, d5, d6, d7, fw, dD, dE, dF, dG, dH, dI, dJ, dK, dL, dM, dN, dO, dP, dQ, dR, dS, dT, dU, dV, dW, dX, dY, dZ, ea, eb, ec, ed, ee, ef, eg, eh, ei, ej, ek, el, em, en, eo, ep, eq, er, es, et, eu, ev, ew, ex, ey, ez, e0, e1, e2, e3, e4, e5, e6, e7, e8, e9, eA, eB, eC, eD, eE, eF, eG, fx, fy, fz, f0, f1, f2, f3, f4, f5, f6, f7, f8, f9, fA, fB, fC, fD, fE, fF, fG, fH, fI, fJ, fK, fL, fM, fN, fO, fP, fQ, fR, fS, fT, fU, fV, fW, fX, fY, fZ, ga, gb, gc, gd, ge, gf, gg, gh, gi, gj, gl, gm, gn, go, gp, gq, gr, gs, gt, gu, gv, gw, gx, gy, gz, g0, g1, g2, g3, g4, g5, g6, g7, g8, g9, gA, gB, gC, gD, gE, gF, gG, gH, gI, gJ, gK, gL, gM, gN, gO, gP, gQ, gR, gS, gT, gU, gV, undef, undef, undef, undef, undef, undef, undef, undef, undef, undef, undef, undef, undef, undef, undef, undef, undef, undef, undef, undef, undef, undef, undef, undef, undef, undef, undef, undef, undef, undef, undef, undef, undef, undef, undef, undef, undef, undef, undef, undef, undef, undef, undef, undef, undef, undef, undef, undef, undef, undef, undef, undef, undef, undef, undef, undef, undef, undef, undef, undef, undef, undef, undef, undef, undef, undef, undef, undef, undef, undef, undef, undef, undef, undef, undef, undef, undef, undef, undef, undef, undef, undef, undef, undef, undef, undef, undef, undef, undef, undef, undef, undef, undef, undef, undef, undef, undef, undef, undef, undef, undef, undef, undef, undef, undef, undef, undef, undef, undef, undef, undef, undef, undef, undef, undef, undef, undef, undef, undef, undef, undef, undef, undef, undef, undef, undef, undef, undef, undef, undef, undef, undef, undef, undef, undef, undef, undef, undef, undef, undef, undef, undef, undef, undef, undef, undef, undef, undef, undef, undef, undef, undef, undef, undef, undef, undef, undef, undef, undef, undef, undef, undef, undef, undef, undef, undef, undef, undef, undef, undef, undef, undef, undef, undef, undef, undef, undef, undef, undef, undef, undef, undef, undef, undef, undef, undef, undef, undef, undef, undef, undef, undef, undef, undef, undef, undef, undef, undef, undef, undef, undef, undef, undef, undef, undef, undef, undef, undef, undef, undef, undef, undef, undef, undef, undef, undef, undef, undef, undef, undef, undef, undef, undef, undef, undef, undef, undef, undef, undef, undef, undef, undef, undef, undef, undef, undef, undef, undef, undef, undef, undef, undef, undef, undef, undef, undef, undef, undef, undef, undef, undef, undef, undef, undef, undef, undef, undef, undef, undef, undef, undef, undef, undef, undef, undef, undef, undef, undef, undef, undef, undef, undef, undef, undef, undef, undef, undef, undef, undef, undef, undef, undef, undef, undef, undef, undef, undef, undef, undef, undef, undef, undef, undef, undef, undef, undef, undef, undef, undef, undef, undef, undef, undef, undef, undef, undef, undef, undef, undef, undef, undef, undef, undef, undef], defers := [] } w147 := by
 dsimp only [second_, first_, body_, Tryz.f3] at hK1_ hK2_ ⊢
 go_cut [506] from 506 to 506 (fun v506 wc => ∃ (kq : Nat) (x506_131 : Bool), v506 = .bool x506_131 ∧ Aside0 (laws_FnStepsWornOfAll.j5 kq l3 a4 l5 a6 l7 l8 a9 a10 a11 t357 t358 t359 t363 t371 t372 t379 t380 t381 t385 t389 t390 t393 t401 t402 x506_131 = some r) ∧ Aside0 (kq ≤ kj74) ∧ Aside0 (Kd.V (Kd.int .i64) 3 wc w.heap.size (fun k_ => (P5_ k_ ∨ w.heap.size ≤ k_) ∧ some k_ ≠ (v365 : Value).ownBlock ∧ some k_ ≠ (v373 : Value).ownBlock ∧ some k_ ≠ (v395 : Value).ownBlock ∧ some k_ ≠ (v403 : Value).ownBlock) (.slice A5 l5.length c5) l5) ∧ Aside0 (Kd.R (Kd.int .i64) 3 wc w.heap.size (fun k_ => (w.heap.size ≤ k_) ∧ some k_ ≠ (v373 : Value).ownBlock ∧ some k_ ≠ (v395 : Value).ownBlock ∧ some k_ ≠ (v403 : Value).ownBlock) v365 t363) ∧ Aside0 (Kd.R (Kd.int .i64) 3 wc w.heap.size (fun k_ => (w.heap.size ≤ k_) ∧ some k_ ≠ (v365 : Value).ownBlock ∧ some k_ ≠ (v395 : Value).ownBlock ∧ some k_ ≠ (v403 : Value).ownBlock) v373 t371) ∧ Aside0 (Kd.R (Kd.int .i64) 3 wc w.heap.size (fun k_ => (w.heap.size ≤ k_) ∧ some k_ ≠ (v365 : Value).ownBlock ∧ some k_ ≠ (v373 : Value).ownBlock ∧ some k_ ≠ (v403 : Value).ownBlock) v395 t393) ∧ Aside0 (Kd.R (Kd.int .i64) 3 wc w.heap.size (fun k_ => (w.heap.size ≤ k_) ∧ some k_ ≠ (v365 : Value).ownBlock ∧ some k_ ≠ (v373 : Value).ownBlock ∧ some k_ ≠ (v395 : Value).ownBlock) v403 t401) ∧ Aside0 (Below w.heap.size w wc))
 case first =>
  dsimp only [List.append_eq, List.cons_append, List.nil_append]
  have H := HC132.out
  clear HC132
  by_cases c148 : (t359 != t362) = true
  ·rw [if_pos c148] at H
   have c148b0 : (t359 != t362) = true := c148
   (try (have c148b1 : decide (t359 = t362) = false := by simpa using c148))
   (try (have c148b2 : (t359 == t362) = false := by simpa using c148))
   (try (have c148b3 : ¬ (t359 = t362) := by simpa using c148))
   clear c148
   (first | rw [c148b0] | (simp only [i64_w, i32_w]; rw [c148b0]) | skip)
   have H' := Aside0.mk H
   clear H
   repeat
     fail_if_success (with_reducible show wpList _ _ _ (⟨some 398, _, _, _, _, _⟩ :: _) _ _)
     first | go_skip | go_guarded | go_step | go_upon | go_back | dsimp only
   with_reducible refine tl_of 397 [0, 0, 0, 1, 1, 0, 0, 0, 1, 1, 0, 0, 0, 1, 1, 0, 0, 0, 0, 1, 1, 0, 0, 0, 1, 1, 0, 0, 0, 0, 1, 1, 0, 0, 0, 1, 1, 0, 0, 0, 1, 1, 0, 0, 0, 1, 1, 0, 0, 0, 1, 1, 0, 0, 0, 1, 1, 0, 0, 0, 1, 1, 0, 0, 0, 1, 1, 0, 0, 0, 1, 1, 0, 0, 0, 0, 1, 1, 0, 0, 0, 1, 1, 0, 0, 0, 0, 1, 1, 0, 0, 0, 1, 1, 0, 0, 0, 1, 1, 0, 0, 0, 1, 1, 0, 0, 0, 0, 1] (by kernel_rfl) (by kernel_rfl) (by kernel_rfl) ?_
   repeat go_step
   go_meet
   case rel => exact ⟨_, (true), Za, H', ⟨by have := HJ12.out; have := HJ26.out; have := HJ74.out; first | omega | exact Nat.le_refl _⟩, ⟨VS (Kd.V_mono HO_5.out (fun _ hk => ⟨hk.1.1.1.1.1.1.1.1, ⟨hk.1.1.1.1.1.1.1.2, ⟨hk.1.1.1.1.1.2, ⟨hk.1.1.1.2, hk.1.2⟩⟩⟩⟩))⟩, ⟨RS (Kd.R_mono HO366.out (fun _ hk => ⟨hk.1.1.1.1.1.1.1.1, ⟨hk.1.1.1.1.1.2, ⟨hk.1.1.1.2, hk.1.2⟩⟩⟩))⟩, ⟨RS (Kd.R_mono HO374.out (fun _ hk => ⟨hk.1.1.1.1.1.1.1.1, ⟨hk.1.1.1.1.1.1.2, ⟨hk.1.1.1.2, hk.1.2⟩⟩⟩))⟩, ⟨RS (Kd.R_mono HO396.out (fun _ hk => ⟨hk.1.1.1.1.1.1.1.1, ⟨hk.1.1.1.1.1.1.2, ⟨hk.1.1.1.1.2, hk.1.2⟩⟩⟩))⟩, ⟨RS (Kd.R_mono HO404.out (fun _ hk => ⟨hk.1.1.1.1.1.1.1.1, ⟨hk.1.1.1.1.1.1.2, ⟨hk.1.1.1.1.2, hk.1.1.2⟩⟩⟩))⟩, ⟨BS HB.out⟩⟩
  ·rw [if_neg c148] at H
   have c148b0 : (t359 != t362) = false := by simpa using c148
   (try (have c148b1 : decide (t359 = t362) = true := by simpa using c148))
   (try (have c148b2 : (t359 == t362) = true := by simpa using c148))
   clear c148
   (first | rw [c148b0] | (simp only [i64_w, i32_w]; rw [c148b0]) | skip)
   repeat
     fail_if_success (with_reducible show wpList _ _ _ (⟨some 398, _, _, _, _, _⟩ :: _) _ _)
     first | go_skip | go_guarded | go_step | go_upon | go_back | dsimp only
   by_cases c149 : t357 = t360
   ·rw [if_pos c149] at H
    have c149b0 : (t357 == t360) = true := beq_iff_eq.mpr c149
    have c149b1 : (t357 != t360) = false := bne_eq_false_iff_eq.mpr c149
    clear c149
    repeat
      fail_if_success (with_reducible show wpList _ _ _ (⟨some 403, _, _, _, _, _⟩ :: _) _ _)
      first | go_skip | go_guarded | go_step | go_upon | go_back | dsimp only
    by_cases c150 : t358 = t361
    ·rw [if_pos c150] at H
     have c150b0 : (t358 == t361) = true := beq_iff_eq.mpr c150
     have c150b1 : (t358 != t361) = false := bne_eq_false_iff_eq.mpr c150
     clear c150
     repeat
       fail_if_success (with_reducible show wpList _ _ _ (⟨some 408, _, _, _, _, _⟩ :: _) _ _)
       first | go_skip | go_guarded | go_step | go_upon | go_back | dsimp only
     by_cases c151 : (t364 != t368) = true
     ·rw [if_pos c151] at H
      have c151b0 : (t364 != t368) = true := c151
      (try (have c151b1 : decide (t364 = t368) = false := by simpa using c151))
      (try (have c151b2 : (t364 == t368) = false := by simpa using c151))
      (try (have c151b3 : ¬ (t364 = t368) := by simpa using c151))
      clear c151
      have H' := Aside0.mk H
      clear H
      repeat
        fail_if_success (with_reducible show wpList _ _ _ (⟨some 413, _, _, _, _, _⟩ :: _) _ _)
        first | go_skip | go_guarded | go_step | go_upon | go_back | dsimp only
      with_reducible refine tl_of 412 [0, 0, 0, 0, 1, 1, 0, 0, 0, 1, 1, 0, 0, 0, 0, 1, 1, 0, 0, 0, 1, 1, 0, 0, 0, 1, 1, 0, 0, 0, 1, 1, 0, 0, 0, 1, 1, 0, 0, 0, 1, 1, 0, 0, 0, 1, 1, 0, 0, 0, 1, 1, 0, 0, 0, 1, 1, 0, 0, 0, 0, 1, 1, 0, 0, 0, 1, 1, 0, 0, 0, 0, 1, 1, 0, 0, 0, 1, 1, 0, 0, 0, 1, 1, 0, 0, 0, 1, 1, 0, 0, 0, 0, 1] (by kernel_rfl) (by kernel_rfl) (by kernel_rfl) ?_
      repeat go_step
      go_meet
      case rel => exact ⟨_, (true), Za, H', ⟨by have := HJ12.out; have := HJ26.out; have := HJ74.out; first | omega | exact Nat.le_refl _⟩, ⟨VS (Kd.V_mono HO_5.out (fun _ hk => ⟨hk.1.1.1.1.1.1.1.1, ⟨hk.1.1.1.1.1.1.1.2, ⟨hk.1.1.1.1.1.2, ⟨hk.1.1.1.2, hk.1.2⟩⟩⟩⟩))⟩, ⟨RS (Kd.R_mono HO366.out (fun _ hk => ⟨hk.1.1.1.1.1.1.1.1, ⟨hk.1.1.1.1.1.2, ⟨hk.1.1.1.2, hk.1.2⟩⟩⟩))⟩, ⟨RS (Kd.R_mono HO374.out (fun _ hk => ⟨hk.1.1.1.1.1.1.1.1, ⟨hk.1.1.1.1.1.1.2, ⟨hk.1.1.1.2, hk.1.2⟩⟩⟩))⟩, ⟨RS (Kd.R_mono HO396.out (fun _ hk => ⟨hk.1.1.1.1.1.1.1.1, ⟨hk.1.1.1.1.1.1.2, ⟨hk.1.1.1.1.2, hk.1.2⟩⟩⟩))⟩, ⟨RS (Kd.R_mono HO404.out (fun _ hk => ⟨hk.1.1.1.1.1.1.1.1, ⟨hk.1.1.1.1.1.1.2, ⟨hk.1.1.1.1.2, hk.1.1.2⟩⟩⟩))⟩, ⟨BS HB.out⟩⟩
     ·rw [if_neg c151] at H
      have c151b0 : (t364 != t368) = false := by simpa using c151
      (try (have c151b1 : decide (t364 = t368) = true := by simpa using c151))
      (try (have c151b2 : (t364 == t368) = true := by simpa using c151))
      clear c151
      replace H := Option.bind_eq_some_iff.mp H
      obtain ⟨t409, A1520, H⟩ := H
      try dsimp only at H
      have A152 := Aside0.mk A1520
      clear A1520
      repeat
        fail_if_success (with_reducible show wpList _ _ _ (⟨some 413, _, _, _, _, _⟩ :: _) _ _)
        first | go_skip | go_guarded | go_step | go_upon | go_back | dsimp only
      by_cases c153 : t409 = true
      ·subst c153
       have H1 : (if (t372 != t376) = true then (laws_FnStepsWornOfAll.j5 kj74 l3 a4 l5 a6 l7 l8 a9 a10 a11 t357 t358 t359 t363 t371 t372 t379 t380 t381 t385 t389 t390 t393 t401 t402 true) else ((laws_wSame.f kj74 t371 t375).bind fun t410 => (if t410 = true then (if (t381 != t384) = true then (laws_FnStepsWornOfAll.j5 kj74 l3 a4 l5 a6 l7 l8 a9 a10 a11 t357 t358 t359 t363 t371 t372 t379 t380 t381 t385 t389 t390 t393 t401 t402 true) else (if t379 = t382 then (if t380 = t383 then (if (t386 != t388) = true then (laws_FnStepsWornOfAll.j5 kj74 l3 a4 l5 a6 l7 l8 a9 a10 a11 t357 t358 t359 t363 t371 t372 t379 t380 t381 t385 t389 t390 t393 t401 t402 true) else (if t385 = t387 then (if (t390 != t392) = true then (laws_FnStepsWornOfAll.j5 kj74 l3 a4 l5 a6 l7 l8 a9 a10 a11 t357 t358 t359 t363 t371 t372 t379 t380 t381 t385 t389 t390 t393 t401 t402 true) else (if t389.toList = t391.toList then (if (t394 != t398) = true then (laws_FnStepsWornOfAll.j5 kj74 l3 a4 l5 a6 l7 l8 a9 a10 a11 t357 t358 t359 t363 t371 t372 t379 t380 t381 t385 t389 t390 t393 t401 t402 true) else ((laws_wSame.f kj74 t393 t397).bind fun t411 => (if t411 = true then (if (t402 != t406) = true then (laws_FnStepsWornOfAll.j5 kj74 l3 a4 l5 a6 l7 l8 a9 a10 a11 t357 t358 t359 t363 t371 t372 t379 t380 t381 t385 t389 t390 t393 t401 t402 true) else ((laws_wSame.f kj74 t401 t405).bind fun t412 => (if t412 = true then (if (t364 != t359) = true then (laws_FnStepsWornOfAll.j5 kj74 l3 a4 l5 a6 l7 l8 a9 a10 a11 t357 t358 t359 t363 t371 t372 t379 t380 t381 t385 t389 t390 t393 t401 t402 true) else (if (t386 != t390) = true then (laws_FnStepsWornOfAll.j5 kj74 l3 a4 l5 a6 l7 l8 a9 a10 a11 t357 t358 t359 t363 t371 t372 t379 t380 t381 t385 t389 t390 t393 t401 t402 true) else (if (t394 != t390) = true then (laws_FnStepsWornOfAll.j5 kj74 l3 a4 l5 a6 l7 l8 a9 a10 a11 t357 t358 t359 t363 t371 t372 t379 t380 t381 t385 t389 t390 t393 t401 t402 true) else ((impl_AreBears.f kj74 l3).bind fun t413 => (laws_FnStepsWornOfAll.j5 kj74 l3 a4 l5 a6 l7 l8 a9 a10 a11 t357 t358 t359 t363 t371 t372 t379 t380 t381 t385 t389 t390 t393 t401 t402 (t390 != t413)))))) else (laws_FnStepsWornOfAll.j5 kj74 l3 a4 l5 a6 l7 l8 a9 a10 a11 t357 t358 t359 t363 t371 t372 t379 t380 t381 t385 t389 t390 t393 t401 t402 true)))) else (laws_FnStepsWornOfAll.j5 kj74 l3 a4 l5 a6 l7 l8 a9 a10 a11 t357 t358 t359 t363 t371 t372 t379 t380 t381 t385 t389 t390 t393 t401 t402 true)))) else (laws_FnStepsWornOfAll.j5 kj74 l3 a4 l5 a6 l7 l8 a9 a10 a11 t357 t358 t359 t363 t371 t372 t379 t380 t381 t385 t389 t390 t393 t401 t402 true))) else (laws_FnStepsWornOfAll.j5 kj74 l3 a4 l5 a6 l7 l8 a9 a10 a11 t357 t358 t359 t363 t371 t372 t379 t380 t381 t385 t389 t390 t393 t401 t402 true))) else (laws_FnStepsWornOfAll.j5 kj74 l3 a4 l5 a6 l7 l8 a9 a10 a11 t357 t358 t359 t363 t371 t372 t379 t380 t381 t385 t389 t390 t393 t401 t402 true)) else (laws_FnStepsWornOfAll.j5 kj74 l3 a4 l5 a6 l7 l8 a9 a10 a11 t357 t358 t359 t363 t371 t372 t379 t380 t381 t385 t389 t390 t393 t401 t402 true))) else (laws_FnStepsWornOfAll.j5 kj74 l3 a4 l5 a6 l7 l8 a9 a10 a11 t357 t358 t359 t363 t371 t372 t379 t380 t381 t385 t389 t390 t393 t401 t402 true)))) = some r := by rw [if_pos rfl] at H; exact H
       clear H
       have H := H1
       clear H1
       obtain ⟨Ao264, co264, eo264⟩ := Kd.R_slice HO366.out
       subst eo264
       obtain ⟨Ao265, co265, eo265⟩ := Kd.R_slice HO370.out
       subst eo265
       repeat
         fail_if_success (with_reducible show wpList _ _ _ (⟨some 419, _, _, _, _, _⟩ :: _) _ _)
         first | (first | (go_at_call 10; (with_reducible refine (laws_wSame.calls kj74 _ _ t363 _ _ t367 true _ ?side1 ?side2 ?side3 ?side4 A152.out).mono ?_); (case side1 => exact CS (Kd.R_reads' HO366.out).2.2); (case side2 => exact (Kd.R_reads' HO366.out).2.1); (case side3 => exact CS (Kd.R_reads' HO370.out).2.2); (case side4 => exact (Kd.R_reads' HO370.out).2.1); rintro e w' ⟨rfl, ⟨nd, rfl⟩⟩)) | go_skip | go_guarded | go_step | go_upon | go_back | dsimp only
       by_cases c154 : (t372 != t376) = true
       ·rw [if_pos c154] at H
        have c154b0 : (t372 != t376) = true := c154
        (try (have c154b1 : decide (t372 = t376) = false := by simpa using c154))
        (try (have c154b2 : (t372 == t376) = false := by simpa using c154))
        (try (have c154b3 : ¬ (t372 = t376) := by simpa using c154))
        clear c154
        have H' := Aside0.mk H
        clear H
        repeat
          fail_if_success (with_reducible show wpList _ _ _ (⟨some 424, _, _, _, _, _⟩ :: _) _ _)
          first | go_skip | go_guarded | go_step | go_upon | go_back | dsimp only
        with_reducible refine tl_of 423 [0, 0, 0, 0, 1, 1, 0, 0, 0, 1, 1, 0, 0, 0, 1, 1, 0, 0, 0, 1, 1, 0, 0, 0, 1, 1, 0, 0, 0, 1, 1, 0, 0, 0, 1, 1, 0, 0, 0, 1, 1, 0, 0, 0, 1, 1, 0, 0, 0, 0, 1, 1, 0, 0, 0, 1, 1, 0, 0, 0, 0, 1, 1, 0, 0, 0, 1, 1, 0, 0, 0, 1, 1, 0, 0, 0, 1, 1, 0, 0, 0, 0, 1] (by kernel_rfl) (by kernel_rfl) (by kernel_rfl) ?_
        repeat go_step
        go_meet
        case rel => exact ⟨_, (true), Za, H', ⟨by have := HJ12.out; have := HJ26.out; have := HJ74.out; first | omega | exact Nat.le_refl _⟩, ⟨VS (Kd.V_mono HO_5.out (fun _ hk => ⟨hk.1.1.1.1.1.1.1.1, ⟨hk.1.1.1.1.1.1.1.2, ⟨hk.1.1.1.1.1.2, ⟨hk.1.1.1.2, hk.1.2⟩⟩⟩⟩))⟩, ⟨RS (Kd.R_mono HO366.out (fun _ hk => ⟨hk.1.1.1.1.1.1.1.1, ⟨hk.1.1.1.1.1.2, ⟨hk.1.1.1.2, hk.1.2⟩⟩⟩))⟩, ⟨RS (Kd.R_mono HO374.out (fun _ hk => ⟨hk.1.1.1.1.1.1.1.1, ⟨hk.1.1.1.1.1.1.2, ⟨hk.1.1.1.2, hk.1.2⟩⟩⟩))⟩, ⟨RS (Kd.R_mono HO396.out (fun _ hk => ⟨hk.1.1.1.1.1.1.1.1, ⟨hk.1.1.1.1.1.1.2, ⟨hk.1.1.1.1.2, hk.1.2⟩⟩⟩))⟩, ⟨RS (Kd.R_mono HO404.out (fun _ hk => ⟨hk.1.1.1.1.1.1.1.1, ⟨hk.1.1.1.1.1.1.2, ⟨hk.1.1.1.1.2, hk.1.1.2⟩⟩⟩))⟩, ⟨BS HB.out⟩⟩
       ·rw [if_neg c154] at H
        have c154b0 : (t372 != t376) = false := by simpa using c154
        (try (have c154b1 : decide (t372 = t376) = true := by simpa using c154))
        (try (have c154b2 : (t372 == t376) = true := by simpa using c154))
        clear c154
        replace H := Option.bind_eq_some_iff.mp H
        obtain ⟨t410, A1570, H⟩ := H
        try dsimp only at H
        have A157 := Aside0.mk A1570
        clear A1570
        repeat
          fail_if_success (with_reducible show wpList _ _ _ (⟨some 424, _, _, _, _, _⟩ :: _) _ _)
          first | go_skip | go_guarded | go_step | go_upon | go_back | dsimp only
        by_cases c158 : t410 = true
        ·subst c158
         have H1 : (if (t381 != t384) = true then (laws_FnStepsWornOfAll.j5 kj74 l3 a4 l5 a6 l7 l8 a9 a10 a11 t357 t358 t359 t363 t371 t372 t379 t380 t381 t385 t389 t390 t393 t401 t402 true) else (if t379 = t382 then (if t380 = t383 then (if (t386 != t388) = true then (laws_FnStepsWornOfAll.j5 kj74 l3 a4 l5 a6 l7 l8 a9 a10 a11 t357 t358 t359 t363 t371 t372 t379 t380 t381 t385 t389 t390 t393 t401 t402 true) else (if t385 = t387 then (if (t390 != t392) = true then (laws_FnStepsWornOfAll.j5 kj74 l3 a4 l5 a6 l7 l8 a9 a10 a11 t357 t358 t359 t363 t371 t372 t379 t380 t381 t385 t389 t390 t393 t401 t402 true) else (if t389.toList = t391.toList then (if (t394 != t398) = true then (laws_FnStepsWornOfAll.j5 kj74 l3 a4 l5 a6 l7 l8 a9 a10 a11 t357 t358 t359 t363 t371 t372 t379 t380 t381 t385 t389 t390 t393 t401 t402 true) else ((laws_wSame.f kj74 t393 t397).bind fun t411 => (if t411 = true then (if (t402 != t406) = true then (laws_FnStepsWornOfAll.j5 kj74 l3 a4 l5 a6 l7 l8 a9 a10 a11 t357 t358 t359 t363 t371 t372 t379 t380 t381 t385 t389 t390 t393 t401 t402 true) else ((laws_wSame.f kj74 t401 t405).bind fun t412 => (if t412 = true then (if (t364 != t359) = true then (laws_FnStepsWornOfAll.j5 kj74 l3 a4 l5 a6 l7 l8 a9 a10 a11 t357 t358 t359 t363 t371 t372 t379 t380 t381 t385 t389 t390 t393 t401 t402 true) else (if (t386 != t390) = true then (laws_FnStepsWornOfAll.j5 kj74 l3 a4 l5 a6 l7 l8 a9 a10 a11 t357 t358 t359 t363 t371 t372 t379 t380 t381 t385 t389 t390 t393 t401 t402 true) else (if (t394 != t390) = true then (laws_FnStepsWornOfAll.j5 kj74 l3 a4 l5 a6 l7 l8 a9 a10 a11 t357 t358 t359 t363 t371 t372 t379 t380 t381 t385 t389 t390 t393 t401 t402 true) else ((impl_AreBears.f kj74 l3).bind fun t413 => (laws_FnStepsWornOfAll.j5 kj74 l3 a4 l5 a6 l7 l8 a9 a10 a11 t357 t358 t359 t363 t371 t372 t379 t380 t381 t385 t389 t390 t393 t401 t402 (t390 != t413)))))) else (laws_FnStepsWornOfAll.j5 kj74 l3 a4 l5 a6 l7 l8 a9 a10 a11 t357 t358 t359 t363 t371 t372 t379 t380 t381 t385 t389 t390 t393 t401 t402 true)))) else (laws_FnStepsWornOfAll.j5 kj74 l3 a4 l5 a6 l7 l8 a9 a10 a11 t357 t358 t359 t363 t371 t372 t379 t380 t381 t385 t389 t390 t393 t401 t402 true)))) else (laws_FnStepsWornOfAll.j5 kj74 l3 a4 l5 a6 l7 l8 a9 a10 a11 t357 t358 t359 t363 t371 t372 t379 t380 t381 t385 t389 t390 t393 t401 t402 true))) else (laws_FnStepsWornOfAll.j5 kj74 l3 a4 l5 a6 l7 l8 a9 a10 a11 t357 t358 t359 t363 t371 t372 t379 t380 t381 t385 t389 t390 t393 t401 t402 true))) else (laws_FnStepsWornOfAll.j5 kj74 l3 a4 l5 a6 l7 l8 a9 a10 a11 t357 t358 t359 t363 t371 t372 t379 t380 t381 t385 t389 t390 t393 t401 t402 true)) else (laws_FnStepsWornOfAll.j5 kj74 l3 a4 l5 a6 l7 l8 a9 a10 a11 t357 t358 t359 t363 t371 t372 t379 t380 t381 t385 t389 t390 t393 t401 t402 true))) = some r := by rw [if_pos rfl] at H; exact H
         clear H
         have H := H1
         clear H1
         obtain ⟨Ao262, co262, eo262⟩ := Kd.R_slice HO374.out
         subst eo262
         obtain ⟨Ao263, co263, eo263⟩ := Kd.R_slice HO378.out
         subst eo263
         repeat
           fail_if_success (with_reducible show wpList _ _ _ (⟨some 430, _, _, _, _, _⟩ :: _) _ _)
           first | (first | (go_at_call 10; (with_reducible refine (laws_wSame.calls kj74 _ _ t363 _ _ t367 true _ ?side1 ?side2 ?side3 ?side4 A152.out).mono ?_); (case side1 => exact CS (Kd.R_reads' HO366.out).2.2); (case side2 => exact (Kd.R_reads' HO366.out).2.1); (case side3 => exact CS (Kd.R_reads' HO370.out).2.2); (case side4 => exact (Kd.R_reads' HO370.out).2.1); rintro e w' ⟨rfl, ⟨nd, rfl⟩⟩) | (go_at_call 10; (with_reducible refine (laws_wSame.calls kj74 _ _ t371 _ _ t375 true _ ?side1 ?side2 ?side3 ?side4 A157.out).mono ?_); (case side1 => exact CS (Kd.R_reads' HO374.out).2.2); (case side2 => exact (Kd.R_reads' HO374.out).2.1); (case side3 => exact CS (Kd.R_reads' HO378.out).2.2); (case side4 => exact (Kd.R_reads' HO378.out).2.1); rintro e w' ⟨rfl, ⟨nd, rfl⟩⟩)) | go_skip | go_guarded | go_step | go_upon | go_back | dsimp only
         by_cases c159 : (t381 != t384) = true
         ·rw [if_pos c159] at H
          have c159b0 : (t381 != t384) = true := c159
          (try (have c159b1 : decide (t381 = t384) = false := by simpa using c159))
          (try (have c159b2 : (t381 == t384) = false := by simpa using c159))
          (try (have c159b3 : ¬ (t381 = t384) := by simpa using c159))
          clear c159
          have H' := Aside0.mk H
          clear H
          repeat
            fail_if_success (with_reducible show wpList _ _ _ (⟨some 435, _, _, _, _, _⟩ :: _) _ _)
            first | go_skip | go_guarded | go_step | go_upon | go_back | dsimp only
          with_reducible refine tl_of 434 [0, 0, 0, 1, 1, 0, 0, 0, 1, 1, 0, 0, 0, 1, 1, 0, 0, 0, 1, 1, 0, 0, 0, 1, 1, 0, 0, 0, 1, 1, 0, 0, 0, 1, 1, 0, 0, 0, 0, 1, 1, 0, 0, 0, 1, 1, 0, 0, 0, 0, 1, 1, 0, 0, 0, 1, 1, 0, 0, 0, 1, 1, 0, 0, 0, 1, 1, 0, 0, 0, 0, 1] (by kernel_rfl) (by kernel_rfl) (by kernel_rfl) ?_
          repeat go_step
          go_meet
          case rel => exact ⟨_, (true), Za, H', ⟨by have := HJ12.out; have := HJ26.out; have := HJ74.out; first | omega | exact Nat.le_refl _⟩, ⟨VS (Kd.V_mono HO_5.out (fun _ hk => ⟨hk.1.1.1.1.1.1.1.1, ⟨hk.1.1.1.1.1.1.1.2, ⟨hk.1.1.1.1.1.2, ⟨hk.1.1.1.2, hk.1.2⟩⟩⟩⟩))⟩, ⟨RS (Kd.R_mono HO366.out (fun _ hk => ⟨hk.1.1.1.1.1.1.1.1, ⟨hk.1.1.1.1.1.2, ⟨hk.1.1.1.2, hk.1.2⟩⟩⟩))⟩, ⟨RS (Kd.R_mono HO374.out (fun _ hk => ⟨hk.1.1.1.1.1.1.1.1, ⟨hk.1.1.1.1.1.1.2, ⟨hk.1.1.1.2, hk.1.2⟩⟩⟩))⟩, ⟨RS (Kd.R_mono HO396.out (fun _ hk => ⟨hk.1.1.1.1.1.1.1.1, ⟨hk.1.1.1.1.1.1.2, ⟨hk.1.1.1.1.2, hk.1.2⟩⟩⟩))⟩, ⟨RS (Kd.R_mono HO404.out (fun _ hk => ⟨hk.1.1.1.1.1.1.1.1, ⟨hk.1.1.1.1.1.1.2, ⟨hk.1.1.1.1.2, hk.1.1.2⟩⟩⟩))⟩, ⟨BS HB.out⟩⟩
         ·rw [if_neg c159] at H
          have c159b0 : (t381 != t384) = false := by simpa using c159
          (try (have c159b1 : decide (t381 = t384) = true := by simpa using c159))
          (try (have c159b2 : (t381 == t384) = true := by simpa using c159))
          clear c159
          repeat
            fail_if_success (with_reducible show wpList _ _ _ (⟨some 435, _, _, _, _, _⟩ :: _) _ _)
            first | go_skip | go_guarded | go_step | go_upon | go_back | dsimp only
          by_cases c164 : t379 = t382
          ·rw [if_pos c164] at H
           have c164b0 : (t379 == t382) = true := beq_iff_eq.mpr c164
           have c164b1 : (t379 != t382) = false := bne_eq_false_iff_eq.mpr c164
           clear c164
           repeat
             fail_if_success (with_reducible show wpList _ _ _ (⟨some 440, _, _, _, _, _⟩ :: _) _ _)
             first | go_skip | go_guarded | go_step | go_upon | go_back | dsimp only
           by_cases c165 : t380 = t383
           ·rw [if_pos c165] at H
            have c165b0 : (t380 == t383) = true := beq_iff_eq.mpr c165
            have c165b1 : (t380 != t383) = false := bne_eq_false_iff_eq.mpr c165
            clear c165
            repeat
              fail_if_success (with_reducible show wpList _ _ _ (⟨some 445, _, _, _, _, _⟩ :: _) _ _)
              first | go_skip | go_guarded | go_step | go_upon | go_back | dsimp only
            by_cases c166 : (t386 != t388) = true
            ·rw [if_pos c166] at H
             have c166b0 : (t386 != t388) = true := c166
             (try (have c166b1 : decide (t386 = t388) = false := by simpa using c166))
             (try (have c166b2 : (t386 == t388) = false := by simpa using c166))
             (try (have c166b3 : ¬ (t386 = t388) := by simpa using c166))
             clear c166
             have H' := Aside0.mk H
             clear H
             repeat
               fail_if_success (with_reducible show wpList _ _ _ (⟨some 450, _, _, _, _, _⟩ :: _) _ _)
               first | go_skip | go_guarded | go_step | go_upon | go_back | dsimp only
             with_reducible refine tl_of 449 [0, 0, 0, 1, 1, 0, 0, 0, 1, 1, 0, 0, 0, 1, 1, 0, 0, 0, 1, 1, 0, 0, 0, 0, 1, 1, 0, 0, 0, 1, 1, 0, 0, 0, 0, 1, 1, 0, 0, 0, 1, 1, 0, 0, 0, 1, 1, 0, 0, 0, 1, 1, 0, 0, 0, 0, 1] (by kernel_rfl) (by kernel_rfl) (by kernel_rfl) ?_
             repeat go_step
             go_meet
             case rel => exact ⟨_, (true), Za, H', ⟨by have := HJ12.out; have := HJ26.out; have := HJ74.out; first | omega | exact Nat.le_refl _⟩, ⟨VS (Kd.V_mono HO_5.out (fun _ hk => ⟨hk.1.1.1.1.1.1.1.1, ⟨hk.1.1.1.1.1.1.1.2, ⟨hk.1.1.1.1.1.2, ⟨hk.1.1.1.2, hk.1.2⟩⟩⟩⟩))⟩, ⟨RS (Kd.R_mono HO366.out (fun _ hk => ⟨hk.1.1.1.1.1.1.1.1, ⟨hk.1.1.1.1.1.2, ⟨hk.1.1.1.2, hk.1.2⟩⟩⟩))⟩, ⟨RS (Kd.R_mono HO374.out (fun _ hk => ⟨hk.1.1.1.1.1.1.1.1, ⟨hk.1.1.1.1.1.1.2, ⟨hk.1.1.1.2, hk.1.2⟩⟩⟩))⟩, ⟨RS (Kd.R_mono HO396.out (fun _ hk => ⟨hk.1.1.1.1.1.1.1.1, ⟨hk.1.1.1.1.1.1.2, ⟨hk.1.1.1.1.2, hk.1.2⟩⟩⟩))⟩, ⟨RS (Kd.R_mono HO404.out (fun _ hk => ⟨hk.1.1.1.1.1.1.1.1, ⟨hk.1.1.1.1.1.1.2, ⟨hk.1.1.1.1.2, hk.1.1.2⟩⟩⟩))⟩, ⟨BS HB.out⟩⟩
            ·rw [if_neg c166] at H
             have c166b0 : (t386 != t388) = false := by simpa using c166
             (try (have c166b1 : decide (t386 = t388) = true := by simpa using c166))
             (try (have c166b2 : (t386 == t388) = true := by simpa using c166))
             clear c166
             repeat
               fail_if_success (with_reducible show wpList _ _ _ (⟨some 450, _, _, _, _, _⟩ :: _) _ _)
               first | go_skip | go_guarded | go_step | go_upon | go_back | dsimp only
             by_cases c171 : t385 = t387
             ·rw [if_pos c171] at H
              have c171b0 : (t385 == t387) = true := beq_iff_eq.mpr c171
              have c171b1 : (t385 != t387) = false := bne_eq_false_iff_eq.mpr c171
              clear c171
              repeat
                fail_if_success (with_reducible show wpList _ _ _ (⟨some 455, _, _, _, _, _⟩ :: _) _ _)
                first | go_skip | go_guarded | go_step | go_upon | go_back | dsimp only
              by_cases c172 : (t390 != t392) = true
              ·rw [if_pos c172] at H
               have c172b0 : (t390 != t392) = true := c172
               (try (have c172b1 : decide (t390 = t392) = false := by simpa using c172))
               (try (have c172b2 : (t390 == t392) = false := by simpa using c172))
               (try (have c172b3 : ¬ (t390 = t392) := by simpa using c172))
               clear c172
               have H' := Aside0.mk H
               clear H
               repeat
                 fail_if_success (with_reducible show wpList _ _ _ (⟨some 460, _, _, _, _, _⟩ :: _) _ _)
                 first | go_skip | go_guarded | go_step | go_upon | go_back | dsimp only
               with_reducible refine tl_of 459 [0, 0, 0, 1, 1, 0, 0, 0, 1, 1, 0, 0, 0, 0, 1, 1, 0, 0, 0, 1, 1, 0, 0, 0, 0, 1, 1, 0, 0, 0, 1, 1, 0, 0, 0, 1, 1, 0, 0, 0, 1, 1, 0, 0, 0, 0, 1] (by kernel_rfl) (by kernel_rfl) (by kernel_rfl) ?_
               repeat go_step
               go_meet
               case rel => exact ⟨_, (true), Za, H', ⟨by have := HJ12.out; have := HJ26.out; have := HJ74.out; first | omega | exact Nat.le_refl _⟩, ⟨VS (Kd.V_mono HO_5.out (fun _ hk => ⟨hk.1.1.1.1.1.1.1.1, ⟨hk.1.1.1.1.1.1.1.2, ⟨hk.1.1.1.1.1.2, ⟨hk.1.1.1.2, hk.1.2⟩⟩⟩⟩))⟩, ⟨RS (Kd.R_mono HO366.out (fun _ hk => ⟨hk.1.1.1.1.1.1.1.1, ⟨hk.1.1.1.1.1.2, ⟨hk.1.1.1.2, hk.1.2⟩⟩⟩))⟩, ⟨RS (Kd.R_mono HO374.out (fun _ hk => ⟨hk.1.1.1.1.1.1.1.1, ⟨hk.1.1.1.1.1.1.2, ⟨hk.1.1.1.2, hk.1.2⟩⟩⟩))⟩, ⟨RS (Kd.R_mono HO396.out (fun _ hk => ⟨hk.1.1.1.1.1.1.1.1, ⟨hk.1.1.1.1.1.1.2, ⟨hk.1.1.1.1.2, hk.1.2⟩⟩⟩))⟩, ⟨RS (Kd.R_mono HO404.out (fun _ hk => ⟨hk.1.1.1.1.1.1.1.1, ⟨hk.1.1.1.1.1.1.2, ⟨hk.1.1.1.1.2, hk.1.1.2⟩⟩⟩))⟩, ⟨BS HB.out⟩⟩
              ·rw [if_neg c172] at H
               have c172b0 : (t390 != t392) = false := by simpa using c172
               (try (have c172b1 : decide (t390 = t392) = true := by simpa using c172))
               (try (have c172b2 : (t390 == t392) = true := by simpa using c172))
               clear c172
               repeat
                 fail_if_success (with_reducible show wpList _ _ _ (⟨some 460, _, _, _, _, _⟩ :: _) _ _)
                 first | go_skip | go_guarded | go_step | go_upon | go_back | dsimp only
               by_cases c177 : t389.toList = t391.toList
               ·rw [if_pos c177] at H
                have c177b0 : (t389.toList == t391.toList) = true := beq_iff_eq.mpr c177
                have c177b1 : (t389.toList != t391.toList) = false := bne_eq_false_iff_eq.mpr c177
                clear c177
                repeat
                  fail_if_success (with_reducible show wpList _ _ _ (⟨some 465, _, _, _, _, _⟩ :: _) _ _)
                  first | go_skip | go_guarded | go_step | go_upon | go_back | dsimp only
                by_cases c178 : (t394 != t398) = true
                ·rw [if_pos c178] at H
                 have c178b0 : (t394 != t398) = true := c178
                 (try (have c178b1 : decide (t394 = t398) = false := by simpa using c178))
                 (try (have c178b2 : (t394 == t398) = false := by simpa using c178))
                 (try (have c178b3 : ¬ (t394 = t398) := by simpa using c178))
                 clear c178
                 have H' := Aside0.mk H
                 clear H
                 repeat
                   fail_if_success (with_reducible show wpList _ _ _ (⟨some 470, _, _, _, _, _⟩ :: _) _ _)
                   first | go_skip | go_guarded | go_step | go_upon | go_back | dsimp only
                 with_reducible refine tl_of 469 [0, 0, 0, 0, 1, 1, 0, 0, 0, 1, 1, 0, 0, 0, 0, 1, 1, 0, 0, 0, 1, 1, 0, 0, 0, 1, 1, 0, 0, 0, 1, 1, 0, 0, 0, 0, 1] (by kernel_rfl) (by kernel_rfl) (by kernel_rfl) ?_
                 repeat go_step
                 go_meet
                 case rel => exact ⟨_, (true), Za, H', ⟨by have := HJ12.out; have := HJ26.out; have := HJ74.out; first | omega | exact Nat.le_refl _⟩, ⟨VS (Kd.V_mono HO_5.out (fun _ hk => ⟨hk.1.1.1.1.1.1.1.1, ⟨hk.1.1.1.1.1.1.1.2, ⟨hk.1.1.1.1.1.2, ⟨hk.1.1.1.2, hk.1.2⟩⟩⟩⟩))⟩, ⟨RS (Kd.R_mono HO366.out (fun _ hk => ⟨hk.1.1.1.1.1.1.1.1, ⟨hk.1.1.1.1.1.2, ⟨hk.1.1.1.2, hk.1.2⟩⟩⟩))⟩, ⟨RS (Kd.R_mono HO374.out (fun _ hk => ⟨hk.1.1.1.1.1.1.1.1, ⟨hk.1.1.1.1.1.1.2, ⟨hk.1.1.1.2, hk.1.2⟩⟩⟩))⟩, ⟨RS (Kd.R_mono HO396.out (fun _ hk => ⟨hk.1.1.1.1.1.1.1.1, ⟨hk.1.1.1.1.1.1.2, ⟨hk.1.1.1.1.2, hk.1.2⟩⟩⟩))⟩, ⟨RS (Kd.R_mono HO404.out (fun _ hk => ⟨hk.1.1.1.1.1.1.1.1, ⟨hk.1.1.1.1.1.1.2, ⟨hk.1.1.1.1.2, hk.1.1.2⟩⟩⟩))⟩, ⟨BS HB.out⟩⟩
                ·rw [if_neg c178] at H
                 have c178b0 : (t394 != t398) = false := by simpa using c178
                 (try (have c178b1 : decide (t394 = t398) = true := by simpa using c178))
                 (try (have c178b2 : (t394 == t398) = true := by simpa using c178))
                 clear c178
                 replace H := Option.bind_eq_some_iff.mp H
                 obtain ⟨t411, A1830, H⟩ := H
                 try dsimp only at H
                 have A183 := Aside0.mk A1830
                 clear A1830
                 repeat
                   fail_if_success (with_reducible show wpList _ _ _ (⟨some 470, _, _, _, _, _⟩ :: _) _ _)
                   first | go_skip | go_guarded | go_step | go_upon | go_back | dsimp only
                 by_cases c184 : t411 = true
                 ·subst c184
                  have H1 : (if (t402 != t406) = true then (laws_FnStepsWornOfAll.j5 kj74 l3 a4 l5 a6 l7 l8 a9 a10 a11 t357 t358 t359 t363 t371 t372 t379 t380 t381 t385 t389 t390 t393 t401 t402 true) else ((laws_wSame.f kj74 t401 t405).bind fun t412 => (if t412 = true then (if (t364 != t359) = true then (laws_FnStepsWornOfAll.j5 kj74 l3 a4 l5 a6 l7 l8 a9 a10 a11 t357 t358 t359 t363 t371 t372 t379 t380 t381 t385 t389 t390 t393 t401 t402 true) else (if (t386 != t390) = true then (laws_FnStepsWornOfAll.j5 kj74 l3 a4 l5 a6 l7 l8 a9 a10 a11 t357 t358 t359 t363 t371 t372 t379 t380 t381 t385 t389 t390 t393 t401 t402 true) else (if (t394 != t390) = true then (laws_FnStepsWornOfAll.j5 kj74 l3 a4 l5 a6 l7 l8 a9 a10 a11 t357 t358 t359 t363 t371 t372 t379 t380 t381 t385 t389 t390 t393 t401 t402 true) else ((impl_AreBears.f kj74 l3).bind fun t413 => (laws_FnStepsWornOfAll.j5 kj74 l3 a4 l5 a6 l7 l8 a9 a10 a11 t357 t358 t359 t363 t371 t372 t379 t380 t381 t385 t389 t390 t393 t401 t402 (t390 != t413)))))) else (laws_FnStepsWornOfAll.j5 kj74 l3 a4 l5 a6 l7 l8 a9 a10 a11 t357 t358 t359 t363 t371 t372 t379 t380 t381 t385 t389 t390 t393 t401 t402 true)))) = some r := by rw [if_pos rfl] at H; exact H
                  clear H
                  have H := H1
                  clear H1
                  obtain ⟨Ao242, co242, eo242⟩ := Kd.R_slice HO396.out
                  subst eo242
                  obtain ⟨Ao243, co243, eo243⟩ := Kd.R_slice HO400.out
                  subst eo243
                  repeat
                    fail_if_success (with_reducible show wpList _ _ _ (⟨some 476, _, _, _, _, _⟩ :: _) _ _)
                    first | (first | (go_at_call 10; (with_reducible refine (laws_wSame.calls kj74 _ _ t363 _ _ t367 true _ ?side1 ?side2 ?side3 ?side4 A152.out).mono ?_); (case side1 => exact CS (Kd.R_reads' HO366.out).2.2); (case side2 => exact (Kd.R_reads' HO366.out).2.1); (case side3 => exact CS (Kd.R_reads' HO370.out).2.2); (case side4 => exact (Kd.R_reads' HO370.out).2.1); rintro e w' ⟨rfl, ⟨nd, rfl⟩⟩) | (go_at_call 10; (with_reducible refine (laws_wSame.calls kj74 _ _ t371 _ _ t375 true _ ?side1 ?side2 ?side3 ?side4 A157.out).mono ?_); (case side1 => exact CS (Kd.R_reads' HO374.out).2.2); (case side2 => exact (Kd.R_reads' HO374.out).2.1); (case side3 => exact CS (Kd.R_reads' HO378.out).2.2); (case side4 => exact (Kd.R_reads' HO378.out).2.1); rintro e w' ⟨rfl, ⟨nd, rfl⟩⟩) | (go_at_call 10; (with_reducible refine (laws_wSame.calls kj74 _ _ t393 _ _ t397 true _ ?side1 ?side2 ?side3 ?side4 A183.out).mono ?_); (case side1 => exact CS (Kd.R_reads' HO396.out).2.2); (case side2 => exact (Kd.R_reads' HO396.out).2.1); (case side3 => exact CS (Kd.R_reads' HO400.out).2.2); (case side4 => exact (Kd.R_reads' HO400.out).2.1); rintro e w' ⟨rfl, ⟨nd, rfl⟩⟩)) | go_skip | go_guarded | go_step | go_upon | go_back | dsimp only
                  by_cases c185 : (t402 != t406) = true
                  ·rw [if_pos c185] at H
                   have c185b0 : (t402 != t406) = true := c185
                   (try (have c185b1 : decide (t402 = t406) = false := by simpa using c185))
                   (try (have c185b2 : (t402 == t406) = false := by simpa using c185))
                   (try (have c185b3 : ¬ (t402 = t406) := by simpa using c185))
                   clear c185
                   have H' := Aside0.mk H
                   clear H
                   repeat
                     fail_if_success (with_reducible show wpList _ _ _ (⟨some 481, _, _, _, _, _⟩ :: _) _ _)
                     first | go_skip | go_guarded | go_step | go_upon | go_back | dsimp only
                   with_reducible refine tl_of 480 [0, 0, 0, 0, 1, 1, 0, 0, 0, 1, 1, 0, 0, 0, 1, 1, 0, 0, 0, 1, 1, 0, 0, 0, 0, 1] (by kernel_rfl) (by kernel_rfl) (by kernel_rfl) ?_
                   repeat go_step
                   go_meet
                   case rel => exact ⟨_, (true), Za, H', ⟨by have := HJ12.out; have := HJ26.out; have := HJ74.out; first | omega | exact Nat.le_refl _⟩, ⟨VS (Kd.V_mono HO_5.out (fun _ hk => ⟨hk.1.1.1.1.1.1.1.1, ⟨hk.1.1.1.1.1.1.1.2, ⟨hk.1.1.1.1.1.2, ⟨hk.1.1.1.2, hk.1.2⟩⟩⟩⟩))⟩, ⟨RS (Kd.R_mono HO366.out (fun _ hk => ⟨hk.1.1.1.1.1.1.1.1, ⟨hk.1.1.1.1.1.2, ⟨hk.1.1.1.2, hk.1.2⟩⟩⟩))⟩, ⟨RS (Kd.R_mono HO374.out (fun _ hk => ⟨hk.1.1.1.1.1.1.1.1, ⟨hk.1.1.1.1.1.1.2, ⟨hk.1.1.1.2, hk.1.2⟩⟩⟩))⟩, ⟨RS (Kd.R_mono HO396.out (fun _ hk => ⟨hk.1.1.1.1.1.1.1.1, ⟨hk.1.1.1.1.1.1.2, ⟨hk.1.1.1.1.2, hk.1.2⟩⟩⟩))⟩, ⟨RS (Kd.R_mono HO404.out (fun _ hk => ⟨hk.1.1.1.1.1.1.1.1, ⟨hk.1.1.1.1.1.1.2, ⟨hk.1.1.1.1.2, hk.1.1.2⟩⟩⟩))⟩, ⟨BS HB.out⟩⟩
                  ·rw [if_neg c185] at H
                   have c185b0 : (t402 != t406) = false := by simpa using c185
                   (try (have c185b1 : decide (t402 = t406) = true := by simpa using c185))
                   (try (have c185b2 : (t402 == t406) = true := by simpa using c185))
                   clear c185
                   replace H := Option.bind_eq_some_iff.mp H
                   obtain ⟨t412, A1920, H⟩ := H
                   try dsimp only at H
                   have A192 := Aside0.mk A1920
                   clear A1920
                   repeat
                     fail_if_success (with_reducible show wpList _ _ _ (⟨some 481, _, _, _, _, _⟩ :: _) _ _)
                     first | go_skip | go_guarded | go_step | go_upon | go_back | dsimp only
                   by_cases c193 : t412 = true
                   ·subst c193
                    have H1 : (if (t364 != t359) = true then (laws_FnStepsWornOfAll.j5 kj74 l3 a4 l5 a6 l7 l8 a9 a10 a11 t357 t358 t359 t363 t371 t372 t379 t380 t381 t385 t389 t390 t393 t401 t402 true) else (if (t386 != t390) = true then (laws_FnStepsWornOfAll.j5 kj74 l3 a4 l5 a6 l7 l8 a9 a10 a11 t357 t358 t359 t363 t371 t372 t379 t380 t381 t385 t389 t390 t393 t401 t402 true) else (if (t394 != t390) = true then (laws_FnStepsWornOfAll.j5 kj74 l3 a4 l5 a6 l7 l8 a9 a10 a11 t357 t358 t359 t363 t371 t372 t379 t380 t381 t385 t389 t390 t393 t401 t402 true) else ((impl_AreBears.f kj74 l3).bind fun t413 => (laws_FnStepsWornOfAll.j5 kj74 l3 a4 l5 a6 l7 l8 a9 a10 a11 t357 t358 t359 t363 t371 t372 t379 t380 t381 t385 t389 t390 t393 t401 t402 (t390 != t413)))))) = some r := by rw [if_pos rfl] at H; exact H
                    clear H
                    have H := H1
                    clear H1
                    obtain ⟨Ao236, co236, eo236⟩ := Kd.R_slice HO404.out
                    subst eo236
                    obtain ⟨Ao237, co237, eo237⟩ := Kd.R_slice HO408.out
                    subst eo237
                    repeat
                      fail_if_success (with_reducible show wpList _ _ _ (⟨some 487, _, _, _, _, _⟩ :: _) _ _)
                      first | (first | (go_at_call 10; (with_reducible refine (laws_wSame.calls kj74 _ _ t363 _ _ t367 true _ ?side1 ?side2 ?side3 ?side4 A152.out).mono ?_); (case side1 => exact CS (Kd.R_reads' HO366.out).2.2); (case side2 => exact (Kd.R_reads' HO366.out).2.1); (case side3 => exact CS (Kd.R_reads' HO370.out).2.2); (case side4 => exact (Kd.R_reads' HO370.out).2.1); rintro e w' ⟨rfl, ⟨nd, rfl⟩⟩) | (go_at_call 10; (with_reducible refine (laws_wSame.calls kj74 _ _ t371 _ _ t375 true _ ?side1 ?side2 ?side3 ?side4 A157.out).mono ?_); (case side1 => exact CS (Kd.R_reads' HO374.out).2.2); (case side2 => exact (Kd.R_reads' HO374.out).2.1); (case side3 => exact CS (Kd.R_reads' HO378.out).2.2); (case side4 => exact (Kd.R_reads' HO378.out).2.1); rintro e w' ⟨rfl, ⟨nd, rfl⟩⟩) | (go_at_call 10; (with_reducible refine (laws_wSame.calls kj74 _ _ t393 _ _ t397 true _ ?side1 ?side2 ?side3 ?side4 A183.out).mono ?_); (case side1 => exact CS (Kd.R_reads' HO396.out).2.2); (case side2 => exact (Kd.R_reads' HO396.out).2.1); (case side3 => exact CS (Kd.R_reads' HO400.out).2.2); (case side4 => exact (Kd.R_reads' HO400.out).2.1); rintro e w' ⟨rfl, ⟨nd, rfl⟩⟩) | (go_at_call 10; (with_reducible refine (laws_wSame.calls kj74 _ _ t401 _ _ t405 true _ ?side1 ?side2 ?side3 ?side4 A192.out).mono ?_); (case side1 => exact CS (Kd.R_reads' HO404.out).2.2); (case side2 => exact (Kd.R_reads' HO404.out).2.1); (case side3 => exact CS (Kd.R_reads' HO408.out).2.2); (case side4 => exact (Kd.R_reads' HO408.out).2.1); rintro e w' ⟨rfl, ⟨nd, rfl⟩⟩)) | go_skip | go_guarded | go_step | go_upon | go_back | dsimp only
                    by_cases c194 : (t364 != t359) = true
                    ·rw [if_pos c194] at H
                     have c194b0 : (t364 != t359) = true := c194
                     (try (have c194b1 : decide (t364 = t359) = false := by simpa using c194))
                     (try (have c194b2 : (t364 == t359) = false := by simpa using c194))
                     (try (have c194b3 : ¬ (t364 = t359) := by simpa using c194))
                     clear c194
                     have H' := Aside0.mk H
                     clear H
                     repeat
                       fail_if_success (with_reducible show wpList _ _ _ (⟨some 492, _, _, _, _, _⟩ :: _) _ _)
                       first | go_skip | go_guarded | go_step | go_upon | go_back | dsimp only
                     with_reducible refine tl_of 491 [0, 0, 0, 1, 1, 0, 0, 0, 1, 1, 0, 0, 0, 0, 1] (by kernel_rfl) (by kernel_rfl) (by kernel_rfl) ?_
                     repeat go_step
                     go_meet
                     case rel => exact ⟨_, (true), Za, H', ⟨by have := HJ12.out; have := HJ26.out; have := HJ74.out; first | omega | exact Nat.le_refl _⟩, ⟨VS (Kd.V_mono HO_5.out (fun _ hk => ⟨hk.1.1.1.1.1.1.1.1, ⟨hk.1.1.1.1.1.1.1.2, ⟨hk.1.1.1.1.1.2, ⟨hk.1.1.1.2, hk.1.2⟩⟩⟩⟩))⟩, ⟨RS (Kd.R_mono HO366.out (fun _ hk => ⟨hk.1.1.1.1.1.1.1.1, ⟨hk.1.1.1.1.1.2, ⟨hk.1.1.1.2, hk.1.2⟩⟩⟩))⟩, ⟨RS (Kd.R_mono HO374.out (fun _ hk => ⟨hk.1.1.1.1.1.1.1.1, ⟨hk.1.1.1.1.1.1.2, ⟨hk.1.1.1.2, hk.1.2⟩⟩⟩))⟩, ⟨RS (Kd.R_mono HO396.out (fun _ hk => ⟨hk.1.1.1.1.1.1.1.1, ⟨hk.1.1.1.1.1.1.2, ⟨hk.1.1.1.1.2, hk.1.2⟩⟩⟩))⟩, ⟨RS (Kd.R_mono HO404.out (fun _ hk => ⟨hk.1.1.1.1.1.1.1.1, ⟨hk.1.1.1.1.1.1.2, ⟨hk.1.1.1.1.2, hk.1.1.2⟩⟩⟩))⟩, ⟨BS HB.out⟩⟩
                    ·rw [if_neg c194] at H
                     have c194b0 : (t364 != t359) = false := by simpa using c194
                     (try (have c194b1 : decide (t364 = t359) = true := by simpa using c194))
                     (try (have c194b2 : (t364 == t359) = true := by simpa using c194))
                     clear c194
                     repeat
                       fail_if_success (with_reducible show wpList _ _ _ (⟨some 492, _, _, _, _, _⟩ :: _) _ _)
                       first | go_skip | go_guarded | go_step | go_upon | go_back | dsimp only
                     by_cases c203 : (t386 != t390) = true
                     ·rw [if_pos c203] at H
                      have c203b0 : (t386 != t390) = true := c203
                      (try (have c203b1 : decide (t386 = t390) = false := by simpa using c203))
                      (try (have c203b2 : (t386 == t390) = false := by simpa using c203))
                      (try (have c203b3 : ¬ (t386 = t390) := by simpa using c203))
                      clear c203
                      have H' := Aside0.mk H
                      clear H
                      repeat
                        fail_if_success (with_reducible show wpList _ _ _ (⟨some 497, _, _, _, _, _⟩ :: _) _ _)
                        first | go_skip | go_guarded | go_step | go_upon | go_back | dsimp only
                      with_reducible refine tl_of 496 [0, 0, 0, 1, 1, 0, 0, 0, 0, 1] (by kernel_rfl) (by kernel_rfl) (by kernel_rfl) ?_
                      repeat go_step
                      go_meet
                      case rel => exact ⟨_, (true), Za, H', ⟨by have := HJ12.out; have := HJ26.out; have := HJ74.out; first | omega | exact Nat.le_refl _⟩, ⟨VS (Kd.V_mono HO_5.out (fun _ hk => ⟨hk.1.1.1.1.1.1.1.1, ⟨hk.1.1.1.1.1.1.1.2, ⟨hk.1.1.1.1.1.2, ⟨hk.1.1.1.2, hk.1.2⟩⟩⟩⟩))⟩, ⟨RS (Kd.R_mono HO366.out (fun _ hk => ⟨hk.1.1.1.1.1.1.1.1, ⟨hk.1.1.1.1.1.2, ⟨hk.1.1.1.2, hk.1.2⟩⟩⟩))⟩, ⟨RS (Kd.R_mono HO374.out (fun _ hk => ⟨hk.1.1.1.1.1.1.1.1, ⟨hk.1.1.1.1.1.1.2, ⟨hk.1.1.1.2, hk.1.2⟩⟩⟩))⟩, ⟨RS (Kd.R_mono HO396.out (fun _ hk => ⟨hk.1.1.1.1.1.1.1.1, ⟨hk.1.1.1.1.1.1.2, ⟨hk.1.1.1.1.2, hk.1.2⟩⟩⟩))⟩, ⟨RS (Kd.R_mono HO404.out (fun _ hk => ⟨hk.1.1.1.1.1.1.1.1, ⟨hk.1.1.1.1.1.1.2, ⟨hk.1.1.1.1.2, hk.1.1.2⟩⟩⟩))⟩, ⟨BS HB.out⟩⟩
                     ·rw [if_neg c203] at H
                      have c203b0 : (t386 != t390) = false := by simpa using c203
                      (try (have c203b1 : decide (t386 = t390) = true := by simpa using c203))
                      (try (have c203b2 : (t386 == t390) = true := by simpa using c203))
                      clear c203
                      repeat
                        fail_if_success (with_reducible show wpList _ _ _ (⟨some 497, _, _, _, _, _⟩ :: _) _ _)
                        first | go_skip | go_guarded | go_step | go_upon | go_back | dsimp only
                      by_cases c212 : (t394 != t390) = true
                      ·rw [if_pos c212] at H
                       have c212b0 : (t394 != t390) = true := c212
                       (try (have c212b1 : decide (t394 = t390) = false := by simpa using c212))
                       (try (have c212b2 : (t394 == t390) = false := by simpa using c212))
                       (try (have c212b3 : ¬ (t394 = t390) := by simpa using c212))
                       clear c212
                       have H' := Aside0.mk H
                       clear H
                       go_wp2_with (first | (go_at_call 10; (with_reducible refine (laws_wSame.calls kj74 _ _ t363 _ _ t367 true _ ?side1 ?side2 ?side3 ?side4 A152.out).mono ?_); (case side1 => exact CS (Kd.R_reads' HO366.out).2.2); (case side2 => exact (Kd.R_reads' HO366.out).2.1); (case side3 => exact CS (Kd.R_reads' HO370.out).2.2); (case side4 => exact (Kd.R_reads' HO370.out).2.1); rintro e w' ⟨rfl, ⟨nd, rfl⟩⟩; obtain ⟨Ao215, co215, eo215⟩ := Kd.R_slice HO374.out; subst eo215; obtain ⟨Ao216, co216, eo216⟩ := Kd.R_slice HO378.out; subst eo216) | (go_at_call 10; (with_reducible refine (laws_wSame.calls kj74 _ _ t371 _ _ t375 true _ ?side1 ?side2 ?side3 ?side4 A157.out).mono ?_); (case side1 => exact CS (Kd.R_reads' HO374.out).2.2); (case side2 => exact (Kd.R_reads' HO374.out).2.1); (case side3 => exact CS (Kd.R_reads' HO378.out).2.2); (case side4 => exact (Kd.R_reads' HO378.out).2.1); rintro e w' ⟨rfl, ⟨nd, rfl⟩⟩; obtain ⟨Ao217, co217, eo217⟩ := Kd.R_slice HO396.out; subst eo217; obtain ⟨Ao218, co218, eo218⟩ := Kd.R_slice HO400.out; subst eo218) | (go_at_call 10; (with_reducible refine (laws_wSame.calls kj74 _ _ t393 _ _ t397 true _ ?side1 ?side2 ?side3 ?side4 A183.out).mono ?_); (case side1 => exact CS (Kd.R_reads' HO396.out).2.2); (case side2 => exact (Kd.R_reads' HO396.out).2.1); (case side3 => exact CS (Kd.R_reads' HO400.out).2.2); (case side4 => exact (Kd.R_reads' HO400.out).2.1); rintro e w' ⟨rfl, ⟨nd, rfl⟩⟩; obtain ⟨Ao219, co219, eo219⟩ := Kd.R_slice HO404.out; subst eo219; obtain ⟨Ao220, co220, eo220⟩ := Kd.R_slice HO408.out; subst eo220) | (go_at_call 10; (with_reducible refine (laws_wSame.calls kj74 _ _ t401 _ _ t405 true _ ?side1 ?side2 ?side3 ?side4 A192.out).mono ?_); (case side1 => exact CS (Kd.R_reads' HO404.out).2.2); (case side2 => exact (Kd.R_reads' HO404.out).2.1); (case side3 => exact CS (Kd.R_reads' HO408.out).2.2); (case side4 => exact (Kd.R_reads' HO408.out).2.1); rintro e w' ⟨rfl, ⟨nd, rfl⟩⟩))
                       go_meet
                       case rel => exact ⟨_, (true), Za, H', ⟨by have := HJ12.out; have := HJ26.out; have := HJ74.out; first | omega | exact Nat.le_refl _⟩, ⟨VS (Kd.V_mono HO_5.out (fun _ hk => ⟨hk.1.1.1.1.1.1.1.1, ⟨hk.1.1.1.1.1.1.1.2, ⟨hk.1.1.1.1.1.2, ⟨hk.1.1.1.2, hk.1.2⟩⟩⟩⟩))⟩, ⟨RS (Kd.R_mono HO366.out (fun _ hk => ⟨hk.1.1.1.1.1.1.1.1, ⟨hk.1.1.1.1.1.2, ⟨hk.1.1.1.2, hk.1.2⟩⟩⟩))⟩, ⟨RS (Kd.R_mono HO374.out (fun _ hk => ⟨hk.1.1.1.1.1.1.1.1, ⟨hk.1.1.1.1.1.1.2, ⟨hk.1.1.1.2, hk.1.2⟩⟩⟩))⟩, ⟨RS (Kd.R_mono HO396.out (fun _ hk => ⟨hk.1.1.1.1.1.1.1.1, ⟨hk.1.1.1.1.1.1.2, ⟨hk.1.1.1.1.2, hk.1.2⟩⟩⟩))⟩, ⟨RS (Kd.R_mono HO404.out (fun _ hk => ⟨hk.1.1.1.1.1.1.1.1, ⟨hk.1.1.1.1.1.1.2, ⟨hk.1.1.1.1.2, hk.1.1.2⟩⟩⟩))⟩, ⟨BS HB.out⟩⟩
                      ·rw [if_neg c212] at H
                       have c212b0 : (t394 != t390) = false := by simpa using c212
                       (try (have c212b1 : decide (t394 = t390) = true := by simpa using c212))
                       (try (have c212b2 : (t394 == t390) = true := by simpa using c212))
                       clear c212
                       replace H := Option.bind_eq_some_iff.mp H
                       obtain ⟨t413, A2210, H⟩ := H
                       try dsimp only at H
                       have A221 := Aside0.mk A2210
                       clear A2210
                       have H' := Aside0.mk H
                       clear H
                       go_wp2_with (first | (go_at_call 10; (with_reducible refine (laws_wSame.calls kj74 _ _ t363 _ _ t367 true _ ?side1 ?side2 ?side3 ?side4 A152.out).mono ?_); (case side1 => exact CS (Kd.R_reads' HO366.out).2.2); (case side2 => exact (Kd.R_reads' HO366.out).2.1); (case side3 => exact CS (Kd.R_reads' HO370.out).2.2); (case side4 => exact (Kd.R_reads' HO370.out).2.1); rintro e w' ⟨rfl, ⟨nd, rfl⟩⟩; obtain ⟨Ao224, co224, eo224⟩ := Kd.R_slice HO374.out; subst eo224; obtain ⟨Ao225, co225, eo225⟩ := Kd.R_slice HO378.out; subst eo225) | (go_at_call 10; (with_reducible refine (laws_wSame.calls kj74 _ _ t371 _ _ t375 true _ ?side1 ?side2 ?side3 ?side4 A157.out).mono ?_); (case side1 => exact CS (Kd.R_reads' HO374.out).2.2); (case side2 => exact (Kd.R_reads' HO374.out).2.1); (case side3 => exact CS (Kd.R_reads' HO378.out).2.2); (case side4 => exact (Kd.R_reads' HO378.out).2.1); rintro e w' ⟨rfl, ⟨nd, rfl⟩⟩; obtain ⟨Ao226, co226, eo226⟩ := Kd.R_slice HO396.out; subst eo226; obtain ⟨Ao227, co227, eo227⟩ := Kd.R_slice HO400.out; subst eo227) | (go_at_call 10; (with_reducible refine (laws_wSame.calls kj74 _ _ t393 _ _ t397 true _ ?side1 ?side2 ?side3 ?side4 A183.out).mono ?_); (case side1 => exact CS (Kd.R_reads' HO396.out).2.2); (case side2 => exact (Kd.R_reads' HO396.out).2.1); (case side3 => exact CS (Kd.R_reads' HO400.out).2.2); (case side4 => exact (Kd.R_reads' HO400.out).2.1); rintro e w' ⟨rfl, ⟨nd, rfl⟩⟩; obtain ⟨Ao228, co228, eo228⟩ := Kd.R_slice HO404.out; subst eo228; obtain ⟨Ao229, co229, eo229⟩ := Kd.R_slice HO408.out; subst eo229) | (go_at_call 10; (with_reducible refine (laws_wSame.calls kj74 _ _ t401 _ _ t405 true _ ?side1 ?side2 ?side3 ?side4 A192.out).mono ?_); (case side1 => exact CS (Kd.R_reads' HO404.out).2.2); (case side2 => exact (Kd.R_reads' HO404.out).2.1); (case side3 => exact CS (Kd.R_reads' HO408.out).2.2); (case side4 => exact (Kd.R_reads' HO408.out).2.1); rintro e w' ⟨rfl, ⟨nd, rfl⟩⟩) | (go_at_call 11; (with_reducible refine (impl_AreBears.calls kj74 _ _ l3 t413 _ ?side1 ?side2 A221.out).mono ?_); (case side1 => exact (Kd.C_below HR3.out (BS HB.out))); (case side2 => exact HC3.out); rintro e w' ⟨rfl, ⟨nd, rfl⟩⟩))
                       go_meet
                       case rel => exact ⟨_, ((t390 != t413)), Za, H', ⟨by have := HJ12.out; have := HJ26.out; have := HJ74.out; first | omega | exact Nat.le_refl _⟩, ⟨VS (Kd.V_mono HO_5.out (fun _ hk => ⟨hk.1.1.1.1.1.1.1.1, ⟨hk.1.1.1.1.1.1.1.2, ⟨hk.1.1.1.1.1.2, ⟨hk.1.1.1.2, hk.1.2⟩⟩⟩⟩))⟩, ⟨RS (Kd.R_mono HO366.out (fun _ hk => ⟨hk.1.1.1.1.1.1.1.1, ⟨hk.1.1.1.1.1.2, ⟨hk.1.1.1.2, hk.1.2⟩⟩⟩))⟩, ⟨RS (Kd.R_mono HO374.out (fun _ hk => ⟨hk.1.1.1.1.1.1.1.1, ⟨hk.1.1.1.1.1.1.2, ⟨hk.1.1.1.2, hk.1.2⟩⟩⟩))⟩, ⟨RS (Kd.R_mono HO396.out (fun _ hk => ⟨hk.1.1.1.1.1.1.1.1, ⟨hk.1.1.1.1.1.1.2, ⟨hk.1.1.1.1.2, hk.1.2⟩⟩⟩))⟩, ⟨RS (Kd.R_mono HO404.out (fun _ hk => ⟨hk.1.1.1.1.1.1.1.1, ⟨hk.1.1.1.1.1.1.2, ⟨hk.1.1.1.1.2, hk.1.1.2⟩⟩⟩))⟩, ⟨BS HB.out⟩⟩
                   ·replace c193 := Bool.eq_false_iff.mpr c193
                    subst c193
                    have H1 : (laws_FnStepsWornOfAll.j5 kj74 l3 a4 l5 a6 l7 l8 a9 a10 a11 t357 t358 t359 t363 t371 t372 t379 t380 t381 t385 t389 t390 t393 t401 t402 true) = some r := by rw [if_neg (show ¬ (false = true) by decide)] at H; exact H
                    clear H
                    have H := H1
                    clear H1
                    have H' := Aside0.mk H
                    clear H
                    obtain ⟨Ao236, co236, eo236⟩ := Kd.R_slice HO404.out
                    subst eo236
                    obtain ⟨Ao237, co237, eo237⟩ := Kd.R_slice HO408.out
                    subst eo237
                    repeat
                      fail_if_success (with_reducible show wpList _ _ _ (⟨some 487, _, _, _, _, _⟩ :: _) _ _)
                      first | (first | (go_at_call 10; (with_reducible refine (laws_wSame.calls kj74 _ _ t363 _ _ t367 true _ ?side1 ?side2 ?side3 ?side4 A152.out).mono ?_); (case side1 => exact CS (Kd.R_reads' HO366.out).2.2); (case side2 => exact (Kd.R_reads' HO366.out).2.1); (case side3 => exact CS (Kd.R_reads' HO370.out).2.2); (case side4 => exact (Kd.R_reads' HO370.out).2.1); rintro e w' ⟨rfl, ⟨nd, rfl⟩⟩) | (go_at_call 10; (with_reducible refine (laws_wSame.calls kj74 _ _ t371 _ _ t375 true _ ?side1 ?side2 ?side3 ?side4 A157.out).mono ?_); (case side1 => exact CS (Kd.R_reads' HO374.out).2.2); (case side2 => exact (Kd.R_reads' HO374.out).2.1); (case side3 => exact CS (Kd.R_reads' HO378.out).2.2); (case side4 => exact (Kd.R_reads' HO378.out).2.1); rintro e w' ⟨rfl, ⟨nd, rfl⟩⟩) | (go_at_call 10; (with_reducible refine (laws_wSame.calls kj74 _ _ t393 _ _ t397 true _ ?side1 ?side2 ?side3 ?side4 A183.out).mono ?_); (case side1 => exact CS (Kd.R_reads' HO396.out).2.2); (case side2 => exact (Kd.R_reads' HO396.out).2.1); (case side3 => exact CS (Kd.R_reads' HO400.out).2.2); (case side4 => exact (Kd.R_reads' HO400.out).2.1); rintro e w' ⟨rfl, ⟨nd, rfl⟩⟩) | (go_at_call 10; (with_reducible refine (laws_wSame.calls kj74 _ _ t401 _ _ t405 false _ ?side1 ?side2 ?side3 ?side4 A192.out).mono ?_); (case side1 => exact CS (Kd.R_reads' HO404.out).2.2); (case side2 => exact (Kd.R_reads' HO404.out).2.1); (case side3 => exact CS (Kd.R_reads' HO408.out).2.2); (case side4 => exact (Kd.R_reads' HO408.out).2.1); rintro e w' ⟨rfl, ⟨nd, rfl⟩⟩)) | go_skip | go_guarded | go_step | go_upon | go_back | dsimp only
                    with_reducible refine tl_of 486 [0, 0, 0, 1, 1, 0, 0, 0, 1, 1, 0, 0, 0, 1, 1, 0, 0, 0, 0, 1] (by kernel_rfl) (by kernel_rfl) (by kernel_rfl) ?_
                    repeat go_step
                    go_meet
                    case rel => exact ⟨_, (true), Za, H', ⟨by have := HJ12.out; have := HJ26.out; have := HJ74.out; first | omega | exact Nat.le_refl _⟩, ⟨VS (Kd.V_mono HO_5.out (fun _ hk => ⟨hk.1.1.1.1.1.1.1.1, ⟨hk.1.1.1.1.1.1.1.2, ⟨hk.1.1.1.1.1.2, ⟨hk.1.1.1.2, hk.1.2⟩⟩⟩⟩))⟩, ⟨RS (Kd.R_mono HO366.out (fun _ hk => ⟨hk.1.1.1.1.1.1.1.1, ⟨hk.1.1.1.1.1.2, ⟨hk.1.1.1.2, hk.1.2⟩⟩⟩))⟩, ⟨RS (Kd.R_mono HO374.out (fun _ hk => ⟨hk.1.1.1.1.1.1.1.1, ⟨hk.1.1.1.1.1.1.2, ⟨hk.1.1.1.2, hk.1.2⟩⟩⟩))⟩, ⟨RS (Kd.R_mono HO396.out (fun _ hk => ⟨hk.1.1.1.1.1.1.1.1, ⟨hk.1.1.1.1.1.1.2, ⟨hk.1.1.1.1.2, hk.1.2⟩⟩⟩))⟩, ⟨RS (Kd.R_mono HO404.out (fun _ hk => ⟨hk.1.1.1.1.1.1.1.1, ⟨hk.1.1.1.1.1.1.2, ⟨hk.1.1.1.1.2, hk.1.1.2⟩⟩⟩))⟩, ⟨BS HB.out⟩⟩
                 ·replace c184 := Bool.eq_false_iff.mpr c184
                  subst c184
                  have H1 : (laws_FnStepsWornOfAll.j5 kj74 l3 a4 l5 a6 l7 l8 a9 a10 a11 t357 t358 t359 t363 t371 t372 t379 t380 t381 t385 t389 t390 t393 t401 t402 true) = some r := by rw [if_neg (show ¬ (false = true) by decide)] at H; exact H
                  clear H
                  have H := H1
                  clear H1
                  have H' := Aside0.mk H
                  clear H
                  obtain ⟨Ao242, co242, eo242⟩ := Kd.R_slice HO396.out
                  subst eo242
                  obtain ⟨Ao243, co243, eo243⟩ := Kd.R_slice HO400.out
                  subst eo243
                  repeat
                    fail_if_success (with_reducible show wpList _ _ _ (⟨some 476, _, _, _, _, _⟩ :: _) _ _)
                    first | (first | (go_at_call 10; (with_reducible refine (laws_wSame.calls kj74 _ _ t363 _ _ t367 true _ ?side1 ?side2 ?side3 ?side4 A152.out).mono ?_); (case side1 => exact CS (Kd.R_reads' HO366.out).2.2); (case side2 => exact (Kd.R_reads' HO366.out).2.1); (case side3 => exact CS (Kd.R_reads' HO370.out).2.2); (case side4 => exact (Kd.R_reads' HO370.out).2.1); rintro e w' ⟨rfl, ⟨nd, rfl⟩⟩) | (go_at_call 10; (with_reducible refine (laws_wSame.calls kj74 _ _ t371 _ _ t375 true _ ?side1 ?side2 ?side3 ?side4 A157.out).mono ?_); (case side1 => exact CS (Kd.R_reads' HO374.out).2.2); (case side2 => exact (Kd.R_reads' HO374.out).2.1); (case side3 => exact CS (Kd.R_reads' HO378.out).2.2); (case side4 => exact (Kd.R_reads' HO378.out).2.1); rintro e w' ⟨rfl, ⟨nd, rfl⟩⟩) | (go_at_call 10; (with_reducible refine (laws_wSame.calls kj74 _ _ t393 _ _ t397 false _ ?side1 ?side2 ?side3 ?side4 A183.out).mono ?_); (case side1 => exact CS (Kd.R_reads' HO396.out).2.2); (case side2 => exact (Kd.R_reads' HO396.out).2.1); (case side3 => exact CS (Kd.R_reads' HO400.out).2.2); (case side4 => exact (Kd.R_reads' HO400.out).2.1); rintro e w' ⟨rfl, ⟨nd, rfl⟩⟩)) | go_skip | go_guarded | go_step | go_upon | go_back | dsimp only
                  with_reducible refine tl_of 475 [0, 0, 0, 1, 1, 0, 0, 0, 0, 1, 1, 0, 0, 0, 1, 1, 0, 0, 0, 1, 1, 0, 0, 0, 1, 1, 0, 0, 0, 0, 1] (by kernel_rfl) (by kernel_rfl) (by kernel_rfl) ?_
                  repeat go_step
                  go_meet
                  case rel => exact ⟨_, (true), Za, H', ⟨by have := HJ12.out; have := HJ26.out; have := HJ74.out; first | omega | exact Nat.le_refl _⟩, ⟨VS (Kd.V_mono HO_5.out (fun _ hk => ⟨hk.1.1.1.1.1.1.1.1, ⟨hk.1.1.1.1.1.1.1.2, ⟨hk.1.1.1.1.1.2, ⟨hk.1.1.1.2, hk.1.2⟩⟩⟩⟩))⟩, ⟨RS (Kd.R_mono HO366.out (fun _ hk => ⟨hk.1.1.1.1.1.1.1.1, ⟨hk.1.1.1.1.1.2, ⟨hk.1.1.1.2, hk.1.2⟩⟩⟩))⟩, ⟨RS (Kd.R_mono HO374.out (fun _ hk => ⟨hk.1.1.1.1.1.1.1.1, ⟨hk.1.1.1.1.1.1.2, ⟨hk.1.1.1.2, hk.1.2⟩⟩⟩))⟩, ⟨RS (Kd.R_mono HO396.out (fun _ hk => ⟨hk.1.1.1.1.1.1.1.1, ⟨hk.1.1.1.1.1.1.2, ⟨hk.1.1.1.1.2, hk.1.2⟩⟩⟩))⟩, ⟨RS (Kd.R_mono HO404.out (fun _ hk => ⟨hk.1.1.1.1.1.1.1.1, ⟨hk.1.1.1.1.1.1.2, ⟨hk.1.1.1.1.2, hk.1.1.2⟩⟩⟩))⟩, ⟨BS HB.out⟩⟩
               ·rw [if_neg c177] at H
                have c177b0 : (t389.toList == t391.toList) = false := beq_eq_false_iff_ne.mpr c177
                have c177b1 : (t389.toList != t391.toList) = true := bne_iff_ne.mpr c177
                have H' := Aside0.mk H
                clear H
                repeat
                  fail_if_success (with_reducible show wpList _ _ _ (⟨some 465, _, _, _, _, _⟩ :: _) _ _)
                  first | go_skip | go_guarded | go_step | go_upon | go_back | dsimp only
                with_reducible refine tl_of 464 [0, 0, 0, 1, 1, 0, 0, 0, 0, 1, 1, 0, 0, 0, 1, 1, 0, 0, 0, 0, 1, 1, 0, 0, 0, 1, 1, 0, 0, 0, 1, 1, 0, 0, 0, 1, 1, 0, 0, 0, 0, 1] (by kernel_rfl) (by kernel_rfl) (by kernel_rfl) ?_
                repeat go_step
                go_meet
                case rel => exact ⟨_, (true), Za, H', ⟨by have := HJ12.out; have := HJ26.out; have := HJ74.out; first | omega | exact Nat.le_refl _⟩, ⟨VS (Kd.V_mono HO_5.out (fun _ hk => ⟨hk.1.1.1.1.1.1.1.1, ⟨hk.1.1.1.1.1.1.1.2, ⟨hk.1.1.1.1.1.2, ⟨hk.1.1.1.2, hk.1.2⟩⟩⟩⟩))⟩, ⟨RS (Kd.R_mono HO366.out (fun _ hk => ⟨hk.1.1.1.1.1.1.1.1, ⟨hk.1.1.1.1.1.2, ⟨hk.1.1.1.2, hk.1.2⟩⟩⟩))⟩, ⟨RS (Kd.R_mono HO374.out (fun _ hk => ⟨hk.1.1.1.1.1.1.1.1, ⟨hk.1.1.1.1.1.1.2, ⟨hk.1.1.1.2, hk.1.2⟩⟩⟩))⟩, ⟨RS (Kd.R_mono HO396.out (fun _ hk => ⟨hk.1.1.1.1.1.1.1.1, ⟨hk.1.1.1.1.1.1.2, ⟨hk.1.1.1.1.2, hk.1.2⟩⟩⟩))⟩, ⟨RS (Kd.R_mono HO404.out (fun _ hk => ⟨hk.1.1.1.1.1.1.1.1, ⟨hk.1.1.1.1.1.1.2, ⟨hk.1.1.1.1.2, hk.1.1.2⟩⟩⟩))⟩, ⟨BS HB.out⟩⟩
             ·rw [if_neg c171] at H
              have c171b0 : (t385 == t387) = false := beq_eq_false_iff_ne.mpr c171
              have c171b1 : (t385 != t387) = true := bne_iff_ne.mpr c171
              have H' := Aside0.mk H
              clear H
              repeat
                fail_if_success (with_reducible show wpList _ _ _ (⟨some 455, _, _, _, _, _⟩ :: _) _ _)
                first | go_skip | go_guarded | go_step | go_upon | go_back | dsimp only
              with_reducible refine tl_of 454 [0, 0, 0, 1, 1, 0, 0, 0, 1, 1, 0, 0, 0, 1, 1, 0, 0, 0, 0, 1, 1, 0, 0, 0, 1, 1, 0, 0, 0, 0, 1, 1, 0, 0, 0, 1, 1, 0, 0, 0, 1, 1, 0, 0, 0, 1, 1, 0, 0, 0, 0, 1] (by kernel_rfl) (by kernel_rfl) (by kernel_rfl) ?_
              repeat go_step
              go_meet
              case rel => exact ⟨_, (true), Za, H', ⟨by have := HJ12.out; have := HJ26.out; have := HJ74.out; first | omega | exact Nat.le_refl _⟩, ⟨VS (Kd.V_mono HO_5.out (fun _ hk => ⟨hk.1.1.1.1.1.1.1.1, ⟨hk.1.1.1.1.1.1.1.2, ⟨hk.1.1.1.1.1.2, ⟨hk.1.1.1.2, hk.1.2⟩⟩⟩⟩))⟩, ⟨RS (Kd.R_mono HO366.out (fun _ hk => ⟨hk.1.1.1.1.1.1.1.1, ⟨hk.1.1.1.1.1.2, ⟨hk.1.1.1.2, hk.1.2⟩⟩⟩))⟩, ⟨RS (Kd.R_mono HO374.out (fun _ hk => ⟨hk.1.1.1.1.1.1.1.1, ⟨hk.1.1.1.1.1.1.2, ⟨hk.1.1.1.2, hk.1.2⟩⟩⟩))⟩, ⟨RS (Kd.R_mono HO396.out (fun _ hk => ⟨hk.1.1.1.1.1.1.1.1, ⟨hk.1.1.1.1.1.1.2, ⟨hk.1.1.1.1.2, hk.1.2⟩⟩⟩))⟩, ⟨RS (Kd.R_mono HO404.out (fun _ hk => ⟨hk.1.1.1.1.1.1.1.1, ⟨hk.1.1.1.1.1.1.2, ⟨hk.1.1.1.1.2, hk.1.1.2⟩⟩⟩))⟩, ⟨BS HB.out⟩⟩
           ·rw [if_neg c165] at H
            have c165b0 : (t380 == t383) = false := beq_eq_false_iff_ne.mpr c165
            have c165b1 : (t380 != t383) = true := bne_iff_ne.mpr c165
            have H' := Aside0.mk H
            clear H
            repeat
              fail_if_success (with_reducible show wpList _ _ _ (⟨some 445, _, _, _, _, _⟩ :: _) _ _)
              first | go_skip | go_guarded | go_step | go_upon | go_back | dsimp only
            with_reducible refine tl_of 444 [0, 0, 0, 1, 1, 0, 0, 0, 1, 1, 0, 0, 0, 1, 1, 0, 0, 0, 1, 1, 0, 0, 0, 1, 1, 0, 0, 0, 0, 1, 1, 0, 0, 0, 1, 1, 0, 0, 0, 0, 1, 1, 0, 0, 0, 1, 1, 0, 0, 0, 1, 1, 0, 0, 0, 1, 1, 0, 0, 0, 0, 1] (by kernel_rfl) (by kernel_rfl) (by kernel_rfl) ?_
            repeat go_step
            go_meet
            case rel => exact ⟨_, (true), Za, H', ⟨by have := HJ12.out; have := HJ26.out; have := HJ74.out; first | omega | exact Nat.le_refl _⟩, ⟨VS (Kd.V_mono HO_5.out (fun _ hk => ⟨hk.1.1.1.1.1.1.1.1, ⟨hk.1.1.1.1.1.1.1.2, ⟨hk.1.1.1.1.1.2, ⟨hk.1.1.1.2, hk.1.2⟩⟩⟩⟩))⟩, ⟨RS (Kd.R_mono HO366.out (fun _ hk => ⟨hk.1.1.1.1.1.1.1.1, ⟨hk.1.1.1.1.1.2, ⟨hk.1.1.1.2, hk.1.2⟩⟩⟩))⟩, ⟨RS (Kd.R_mono HO374.out (fun _ hk => ⟨hk.1.1.1.1.1.1.1.1, ⟨hk.1.1.1.1.1.1.2, ⟨hk.1.1.1.2, hk.1.2⟩⟩⟩))⟩, ⟨RS (Kd.R_mono HO396.out (fun _ hk => ⟨hk.1.1.1.1.1.1.1.1, ⟨hk.1.1.1.1.1.1.2, ⟨hk.1.1.1.1.2, hk.1.2⟩⟩⟩))⟩, ⟨RS (Kd.R_mono HO404.out (fun _ hk => ⟨hk.1.1.1.1.1.1.1.1, ⟨hk.1.1.1.1.1.1.2, ⟨hk.1.1.1.1.2, hk.1.1.2⟩⟩⟩))⟩, ⟨BS HB.out⟩⟩
          ·rw [if_neg c164] at H
           have c164b0 : (t379 == t382) = false := beq_eq_false_iff_ne.mpr c164
           have c164b1 : (t379 != t382) = true := bne_iff_ne.mpr c164
           have H' := Aside0.mk H
           clear H
           repeat
             fail_if_success (with_reducible show wpList _ _ _ (⟨some 440, _, _, _, _, _⟩ :: _) _ _)
             first | go_skip | go_guarded | go_step | go_upon | go_back | dsimp only
           with_reducible refine tl_of 439 [0, 0, 0, 1, 1, 0, 0, 0, 1, 1, 0, 0, 0, 1, 1, 0, 0, 0, 1, 1, 0, 0, 0, 1, 1, 0, 0, 0, 1, 1, 0, 0, 0, 0, 1, 1, 0, 0, 0, 1, 1, 0, 0, 0, 0, 1, 1, 0, 0, 0, 1, 1, 0, 0, 0, 1, 1, 0, 0, 0, 1, 1, 0, 0, 0, 0, 1] (by kernel_rfl) (by kernel_rfl) (by kernel_rfl) ?_
           repeat go_step
           go_meet
           case rel => exact ⟨_, (true), Za, H', ⟨by have := HJ12.out; have := HJ26.out; have := HJ74.out; first | omega | exact Nat.le_refl _⟩, ⟨VS (Kd.V_mono HO_5.out (fun _ hk => ⟨hk.1.1.1.1.1.1.1.1, ⟨hk.1.1.1.1.1.1.1.2, ⟨hk.1.1.1.1.1.2, ⟨hk.1.1.1.2, hk.1.2⟩⟩⟩⟩))⟩, ⟨RS (Kd.R_mono HO366.out (fun _ hk => ⟨hk.1.1.1.1.1.1.1.1, ⟨hk.1.1.1.1.1.2, ⟨hk.1.1.1.2, hk.1.2⟩⟩⟩))⟩, ⟨RS (Kd.R_mono HO374.out (fun _ hk => ⟨hk.1.1.1.1.1.1.1.1, ⟨hk.1.1.1.1.1.1.2, ⟨hk.1.1.1.2, hk.1.2⟩⟩⟩))⟩, ⟨RS (Kd.R_mono HO396.out (fun _ hk => ⟨hk.1.1.1.1.1.1.1.1, ⟨hk.1.1.1.1.1.1.2, ⟨hk.1.1.1.1.2, hk.1.2⟩⟩⟩))⟩, ⟨RS (Kd.R_mono HO404.out (fun _ hk => ⟨hk.1.1.1.1.1.1.1.1, ⟨hk.1.1.1.1.1.1.2, ⟨hk.1.1.1.1.2, hk.1.1.2⟩⟩⟩))⟩, ⟨BS HB.out⟩⟩
        ·replace c158 := Bool.eq_false_iff.mpr c158
         subst c158
         have H1 : (laws_FnStepsWornOfAll.j5 kj74 l3 a4 l5 a6 l7 l8 a9 a10 a11 t357 t358 t359 t363 t371 t372 t379 t380 t381 t385 t389 t390 t393 t401 t402 true) = some r := by rw [if_neg (show ¬ (false = true) by decide)] at H; exact H
         clear H
         have H := H1
         clear H1
         have H' := Aside0.mk H
         clear H
         obtain ⟨Ao262, co262, eo262⟩ := Kd.R_slice HO374.out
         subst eo262
         obtain ⟨Ao263, co263, eo263⟩ := Kd.R_slice HO378.out
         subst eo263
         repeat
           fail_if_success (with_reducible show wpList _ _ _ (⟨some 430, _, _, _, _, _⟩ :: _) _ _)
           first | (first | (go_at_call 10; (with_reducible refine (laws_wSame.calls kj74 _ _ t363 _ _ t367 true _ ?side1 ?side2 ?side3 ?side4 A152.out).mono ?_); (case side1 => exact CS (Kd.R_reads' HO366.out).2.2); (case side2 => exact (Kd.R_reads' HO366.out).2.1); (case side3 => exact CS (Kd.R_reads' HO370.out).2.2); (case side4 => exact (Kd.R_reads' HO370.out).2.1); rintro e w' ⟨rfl, ⟨nd, rfl⟩⟩) | (go_at_call 10; (with_reducible refine (laws_wSame.calls kj74 _ _ t371 _ _ t375 false _ ?side1 ?side2 ?side3 ?side4 A157.out).mono ?_); (case side1 => exact CS (Kd.R_reads' HO374.out).2.2); (case side2 => exact (Kd.R_reads' HO374.out).2.1); (case side3 => exact CS (Kd.R_reads' HO378.out).2.2); (case side4 => exact (Kd.R_reads' HO378.out).2.1); rintro e w' ⟨rfl, ⟨nd, rfl⟩⟩)) | go_skip | go_guarded | go_step | go_upon | go_back | dsimp only
         with_reducible refine tl_of 429 [0, 0, 0, 1, 1, 0, 0, 0, 1, 1, 0, 0, 0, 1, 1, 0, 0, 0, 1, 1, 0, 0, 0, 1, 1, 0, 0, 0, 1, 1, 0, 0, 0, 1, 1, 0, 0, 0, 1, 1, 0, 0, 0, 0, 1, 1, 0, 0, 0, 1, 1, 0, 0, 0, 0, 1, 1, 0, 0, 0, 1, 1, 0, 0, 0, 1, 1, 0, 0, 0, 1, 1, 0, 0, 0, 0, 1] (by kernel_rfl) (by kernel_rfl) (by kernel_rfl) ?_
         repeat go_step
         go_meet
         case rel => exact ⟨_, (true), Za, H', ⟨by have := HJ12.out; have := HJ26.out; have := HJ74.out; first | omega | exact Nat.le_refl _⟩, ⟨VS (Kd.V_mono HO_5.out (fun _ hk => ⟨hk.1.1.1.1.1.1.1.1, ⟨hk.1.1.1.1.1.1.1.2, ⟨hk.1.1.1.1.1.2, ⟨hk.1.1.1.2, hk.1.2⟩⟩⟩⟩))⟩, ⟨RS (Kd.R_mono HO366.out (fun _ hk => ⟨hk.1.1.1.1.1.1.1.1, ⟨hk.1.1.1.1.1.2, ⟨hk.1.1.1.2, hk.1.2⟩⟩⟩))⟩, ⟨RS (Kd.R_mono HO374.out (fun _ hk => ⟨hk.1.1.1.1.1.1.1.1, ⟨hk.1.1.1.1.1.1.2, ⟨hk.1.1.1.2, hk.1.2⟩⟩⟩))⟩, ⟨RS (Kd.R_mono HO396.out (fun _ hk => ⟨hk.1.1.1.1.1.1.1.1, ⟨hk.1.1.1.1.1.1.2, ⟨hk.1.1.1.1.2, hk.1.2⟩⟩⟩))⟩, ⟨RS (Kd.R_mono HO404.out (fun _ hk => ⟨hk.1.1.1.1.1.1.1.1, ⟨hk.1.1.1.1.1.1.2, ⟨hk.1.1.1.1.2, hk.1.1.2⟩⟩⟩))⟩, ⟨BS HB.out⟩⟩
      ·replace c153 := Bool.eq_false_iff.mpr c153
       subst c153
       have H1 : (laws_FnStepsWornOfAll.j5 kj74 l3 a4 l5 a6 l7 l8 a9 a10 a11 t357 t358 t359 t363 t371 t372 t379 t380 t381 t385 t389 t390 t393 t401 t402 true) = some r := by rw [if_neg (show ¬ (false = true) by decide)] at H; exact H
       clear H
       have H := H1
       clear H1
       have H' := Aside0.mk H
       clear H
       obtain ⟨Ao264, co264, eo264⟩ := Kd.R_slice HO366.out
       subst eo264
       obtain ⟨Ao265, co265, eo265⟩ := Kd.R_slice HO370.out
       subst eo265
       repeat
         fail_if_success (with_reducible show wpList _ _ _ (⟨some 419, _, _, _, _, _⟩ :: _) _ _)
         first | (first | (go_at_call 10; (with_reducible refine (laws_wSame.calls kj74 _ _ t363 _ _ t367 false _ ?side1 ?side2 ?side3 ?side4 A152.out).mono ?_); (case side1 => exact CS (Kd.R_reads' HO366.out).2.2); (case side2 => exact (Kd.R_reads' HO366.out).2.1); (case side3 => exact CS (Kd.R_reads' HO370.out).2.2); (case side4 => exact (Kd.R_reads' HO370.out).2.1); rintro e w' ⟨rfl, ⟨nd, rfl⟩⟩)) | go_skip | go_guarded | go_step | go_upon | go_back | dsimp only
       with_reducible refine tl_of 418 [0, 0, 0, 1, 1, 0, 0, 0, 0, 1, 1, 0, 0, 0, 1, 1, 0, 0, 0, 1, 1, 0, 0, 0, 1, 1, 0, 0, 0, 1, 1, 0, 0, 0, 1, 1, 0, 0, 0, 1, 1, 0, 0, 0, 1, 1, 0, 0, 0, 1, 1, 0, 0, 0, 0, 1, 1, 0, 0, 0, 1, 1, 0, 0, 0, 0, 1, 1, 0, 0, 0, 1, 1, 0, 0, 0, 1, 1, 0, 0, 0, 1, 1, 0, 0, 0, 0, 1] (by kernel_rfl) (by kernel_rfl) (by kernel_rfl) ?_
       repeat go_step
       go_meet
       case rel => exact ⟨_, (true), Za, H', ⟨by have := HJ12.out; have := HJ26.out; have := HJ74.out; first | omega | exact Nat.le_refl _⟩, ⟨VS (Kd.V_mono HO_5.out (fun _ hk => ⟨hk.1.1.1.1.1.1.1.1, ⟨hk.1.1.1.1.1.1.1.2, ⟨hk.1.1.1.1.1.2, ⟨hk.1.1.1.2, hk.1.2⟩⟩⟩⟩))⟩, ⟨RS (Kd.R_mono HO366.out (fun _ hk => ⟨hk.1.1.1.1.1.1.1.1, ⟨hk.1.1.1.1.1.2, ⟨hk.1.1.1.2, hk.1.2⟩⟩⟩))⟩, ⟨RS (Kd.R_mono HO374.out (fun _ hk => ⟨hk.1.1.1.1.1.1.1.1, ⟨hk.1.1.1.1.1.1.2, ⟨hk.1.1.1.2, hk.1.2⟩⟩⟩))⟩, ⟨RS (Kd.R_mono HO396.out (fun _ hk => ⟨hk.1.1.1.1.1.1.1.1, ⟨hk.1.1.1.1.1.1.2, ⟨hk.1.1.1.1.2, hk.1.2⟩⟩⟩))⟩, ⟨RS (Kd.R_mono HO404.out (fun _ hk => ⟨hk.1.1.1.1.1.1.1.1, ⟨hk.1.1.1.1.1.1.2, ⟨hk.1.1.1.1.2, hk.1.1.2⟩⟩⟩))⟩, ⟨BS HB.out⟩⟩
    ·rw [if_neg c150] at H
     have c150b0 : (t358 == t361) = false := beq_eq_false_iff_ne.mpr c150
     have c150b1 : (t358 != t361) = true := bne_iff_ne.mpr c150
     have H' := Aside0.mk H
     clear H
     repeat
       fail_if_success (with_reducible show wpList _ _ _ (⟨some 408, _, _, _, _, _⟩ :: _) _ _)
       first | go_skip | go_guarded | go_step | go_upon | go_back | dsimp only
     with_reducible refine tl_of 407 [0, 0, 0, 1, 1, 0, 0, 0, 0, 1, 1, 0, 0, 0, 1, 1, 0, 0, 0, 0, 1, 1, 0, 0, 0, 1, 1, 0, 0, 0, 1, 1, 0, 0, 0, 1, 1, 0, 0, 0, 1, 1, 0, 0, 0, 1, 1, 0, 0, 0, 1, 1, 0, 0, 0, 1, 1, 0, 0, 0, 1, 1, 0, 0, 0, 0, 1, 1, 0, 0, 0, 1, 1, 0, 0, 0, 0, 1, 1, 0, 0, 0, 1, 1, 0, 0, 0, 1, 1, 0, 0, 0, 1, 1, 0, 0, 0, 0, 1] (by kernel_rfl) (by kernel_rfl) (by kernel_rfl) ?_
     repeat go_step
     go_meet
     case rel => exact ⟨_, (true), Za, H', ⟨by have := HJ12.out; have := HJ26.out; have := HJ74.out; first | omega | exact Nat.le_refl _⟩, ⟨VS (Kd.V_mono HO_5.out (fun _ hk => ⟨hk.1.1.1.1.1.1.1.1, ⟨hk.1.1.1.1.1.1.1.2, ⟨hk.1.1.1.1.1.2, ⟨hk.1.1.1.2, hk.1.2⟩⟩⟩⟩))⟩, ⟨RS (Kd.R_mono HO366.out (fun _ hk => ⟨hk.1.1.1.1.1.1.1.1, ⟨hk.1.1.1.1.1.2, ⟨hk.1.1.1.2, hk.1.2⟩⟩⟩))⟩, ⟨RS (Kd.R_mono HO374.out (fun _ hk => ⟨hk.1.1.1.1.1.1.1.1, ⟨hk.1.1.1.1.1.1.2, ⟨hk.1.1.1.2, hk.1.2⟩⟩⟩))⟩, ⟨RS (Kd.R_mono HO396.out (fun _ hk => ⟨hk.1.1.1.1.1.1.1.1, ⟨hk.1.1.1.1.1.1.2, ⟨hk.1.1.1.1.2, hk.1.2⟩⟩⟩))⟩, ⟨RS (Kd.R_mono HO404.out (fun _ hk => ⟨hk.1.1.1.1.1.1.1.1, ⟨hk.1.1.1.1.1.1.2, ⟨hk.1.1.1.1.2, hk.1.1.2⟩⟩⟩))⟩, ⟨BS HB.out⟩⟩
   ·rw [if_neg c149] at H
    have c149b0 : (t357 == t360) = false := beq_eq_false_iff_ne.mpr c149
    have c149b1 : (t357 != t360) = true := bne_iff_ne.mpr c149
    have H' := Aside0.mk H
    clear H
    repeat
      fail_if_success (with_reducible show wpList _ _ _ (⟨some 403, _, _, _, _, _⟩ :: _) _ _)
      first | go_skip | go_guarded | go_step | go_upon | go_back | dsimp only
    with_reducible refine tl_of 402 [0, 0, 0, 1, 1, 0, 0, 0, 1, 1, 0, 0, 0, 0, 1, 1, 0, 0, 0, 1, 1, 0, 0, 0, 0, 1, 1, 0, 0, 0, 1, 1, 0, 0, 0, 1, 1, 0, 0, 0, 1, 1, 0, 0, 0, 1, 1, 0, 0, 0, 1, 1, 0, 0, 0, 1, 1, 0, 0, 0, 1, 1, 0, 0, 0, 1, 1, 0, 0, 0, 0, 1, 1, 0, 0, 0, 1, 1, 0, 0, 0, 0, 1, 1, 0, 0, 0, 1, 1, 0, 0, 0, 1, 1, 0, 0, 0, 1, 1, 0, 0, 0, 0, 1] (by kernel_rfl) (by kernel_rfl) (by kernel_rfl) ?_
    repeat go_step
    go_meet
    case rel => exact ⟨_, (true), Za, H', ⟨by have := HJ12.out; have := HJ26.out; have := HJ74.out; first | omega | exact Nat.le_refl _⟩, ⟨VS (Kd.V_mono HO_5.out (fun _ hk => ⟨hk.1.1.1.1.1.1.1.1, ⟨hk.1.1.1.1.1.1.1.2, ⟨hk.1.1.1.1.1.2, ⟨hk.1.1.1.2, hk.1.2⟩⟩⟩⟩))⟩, ⟨RS (Kd.R_mono HO366.out (fun _ hk => ⟨hk.1.1.1.1.1.1.1.1, ⟨hk.1.1.1.1.1.2, ⟨hk.1.1.1.2, hk.1.2⟩⟩⟩))⟩, ⟨RS (Kd.R_mono HO374.out (fun _ hk => ⟨hk.1.1.1.1.1.1.1.1, ⟨hk.1.1.1.1.1.1.2, ⟨hk.1.1.1.2, hk.1.2⟩⟩⟩))⟩, ⟨RS (Kd.R_mono HO396.out (fun _ hk => ⟨hk.1.1.1.1.1.1.1.1, ⟨hk.1.1.1.1.1.1.2, ⟨hk.1.1.1.1.2, hk.1.2⟩⟩⟩))⟩, ⟨RS (Kd.R_mono HO404.out (fun _ hk => ⟨hk.1.1.1.1.1.1.1.1, ⟨hk.1.1.1.1.1.1.2, ⟨hk.1.1.1.1.2, hk.1.1.2⟩⟩⟩))⟩, ⟨BS HB.out⟩⟩
 case rest =>
  go_step
  exact laws_FnStepsWornOfAll.stage4 _ _ _ _ _ _ _ _ _ _ _ _ _ _ _ _ _ _ _ _ _ _ _ _ _ _ _ _ _ _ _ _ _ _ _ _ _ _ _ _ _ _ _ _ _ _ _ _ _ _ _ _ _ _ _ _ _ _ _ _ _ _ _ _ _ _ _ _ _ _ _ _ _ _ _ _ _ _ _ _ _ _ _ _ _ _ _ _ _ _ _ _ _ _ _ _ _ _ _ _ _ _ _ _ _ _ _ _ _ _ _ _ _ _ _ _ _ _ _ _ _ _ _ _ _ _ _ _ _ _ _ _ _ _ _ _ _ _ _ _ _ _ _ _ _ _ _ _ _ _ _ _ _ _ _ _ _ _ _ _ _ _ _ _ _ _ _ _ _ _ _ _ _ _ _ _ _ _ _ _ _ _ _ _ _ _ _ _ _ _ _ _ _ _ _ _ _ _ _ _ _ _ _ _ _ _ _ _ _ _ _ _ _ _ _ _ _ _ _ _ _ _ _ _ _ _ _ _ _ _ _ _ _ _ _ _ _ _ _ _ _ _ _ _ _ _ _ _ _ _ _ _ _ _ _ _ _ _ _ _ _ _ _ _ _ _ _ _ _ _ _ _ _ _ _ _ _ _ _ _ _ _ _ _ _ _ _ _ _ _ _ _ _ _ _ _ _ _ _ _ _ _ _ _ _ _ _ _ _ _ _ _ _ _ _ _ _ _ _ _ _ _ _ _ _ _ _ _ _ _ _ _ _ _ _ _ _ _ _ _ _ _ _ _ _ _ _ _ _ _ _ _ _ _ _ _ _ _ _ _ _ _ _ _ _ _ _ _ _ _ _ _ _ _ _ _ _ _ _ _ _ _ _ _ _ _ _ _ _ _ _ _ _ _ _ _ _ _ _ _ _ _ _ _ _ _ _ _ _ _ _ _ _ _ _ _ _ _ _ _ _ _ _ _ _ _ _ _ _ _ _ _ _ _ _ _ _ _ _ _ _ _ _ _ _ _ _ _ _ _ _ _ _ _ _ _ _ _ _ _ _ _ _ _ _ _ _ _ _ _ _ _ _ _ _ _ _ _ _ _ _ _ _ _ _ _ _ _ _ _ _ _ _ _ _ _ _ _ _ _ _ _ _ _ _ htb HR3 HC3 HR7 HR8 HC8 HJ12 HJ26 HJ74 HC132 HO_5 HB hcut _ (by intro a_ w_ h_; go_step; exact h_)
end Go.Proofs.YtmonnbbihmpedaaGreatDoor.PFnStepsWornOfAll
