-- Written by wip/gen/mp.py of this repo (the kit's printer with our own parts): functions and their contracts.
import Derived.Test.YtmonnbbihmpedaaGreatDoorPFnStepsWornOfAllx10s5
namespace Go.Proofs.YtmonnbbihmpedaaGreatDoor.PFnStepsWornOfAll
open Go.RowKit Go.Proofs.YtmonnbbihmpedaaGreatDoorW.PrintWords Go.Proofs.YtmonnbbihmpedaaGreatDoorW.PrintLast Go.Proofs.YtmonnbbihmpedaaGreatDoorW.PrintMore
attribute [local go_sem] yielded_undef max2_int min2_int max_two min_two max_three min_three max_four min_four   -- for this text's walks alone
set_option linter.unusedVariables false
set_option linter.unusedSimpArgs false

/-! ### laws_FnStepsWornOfAll: function 3 -/
set_option maxHeartbeats 8000000 in
set_option maxRecDepth 100000 in
theorem laws_FnStepsWornOfAll.stage4 (k c0 c2 c3 c5 c7 c8 kj12 kj26 kj74 : Nat) (A0 A2 A3 A5 A7 A8 : Option Addr) (l0 l2 l3 l5 l8 t363 t367 t371 t375 t393 t397 t401 t405 : List Int) (a1 a4 a6 a9 a10 t336 t338 t357 t358 t360 t361 t379 t380 t382 t383 t385 t387 : Int) (P5_ : Nat → Prop) (l7 : List (List Int)) (a11 t389 t391 : ByteArray) (r t327 t329 t332 t333 t334 t335 t337 t339 t359 t362 t364 t368 t372 t376 t381 t384 t386 t388 t390 t392 t394 t398 t402 t406 : Bool) (w w147 wc : World) (ba bb bc bd be bf bg bh bi bj bk bl bm bn bo bp bq br bs bt bu bv bw bx bz b0 b1 b2 b3 b4 b5 b6 v325 v330 b7 b8 b9 bA bB bC bD bE bF bG bH bI bJ bK bL bM bN bO bP bQ bR bS bT bU bV bW bX bY bZ da db dc dd de df dg dh di dj dk dl dm dn dp dq dr ds dt du dv dw dx dy dz d0 d1 d2 d3 d4 d5 d6 d7 d8 d9 dA dB dC dD dE dF dG dH dI dJ dK dL dM dN dO dP dQ dR dS dT dU dV dW dX dY dZ ea eb ec ed ee ef eg eh ei ej ek el em en eo ep eq er es et eu ev ew ex ey ez e0 e1 e2 e3 e4 e5 e6 e7 e8 e9 eA eB eC eD eE eF eG v365 v369 v373 v377 v395 v399 v403 v407 eH eI eJ eK eL eM eN eO eP eQ eR eS eT eU eV eW eX eY eZ fa fb fc fd fe ff fg fh fi fj fk fl fm fn fo fp fq fr fs ft fu fv fw fx fy fz f0 f1 f2 f3 f4 f5 f6 f7 f8 f9 fA fB fC fD fE fF fG fH fI fJ fK fL fM fN fO fP fQ fR fS fT fU fV fW fX fY fZ ga gb gc gd ge gf gg gh gi gj gl gm gn go gp gq gr gs gt gu gv gw gx gy gz g0 g1 g2 g3 g4 g5 g6 g7 g8 g9 gA gB gC gD gE gF gG gH gI gJ gK gL gM gN gO gP gQ gR gS gT gU gV gW gX gY gZ ma mb mc md me mf mg mh mi mj ml mm mn mo mq mr ms mt mu mv mw mx my mz m0 m1 m2 m3 m4 m5 m6 m7 m8 m9 mA mB mC mD mE mF mG mH mI mJ mK mL mM mN mO mP mQ mR mS mT mU mV mW mX mY mZ na nb nc ne nf ng nh ni nj nk nl nm nn no np nq nr ns nt nu nv nw nx ny nz n0 n1 n2 n3 n4 n5 n6 n7 n8 n9 nA nB nC nD nE nF nG nH nI nJ nK nL nM nN : Value) (htb : TBB w) (HR3 : Aside0 ((Kd.int IntKind.i64).C w A3 l3.length l3)) (HC3 : Aside0 (l3.length ≤ c3)) (HR7 : Aside0 ((Kd.slice 3 (Kd.int IntKind.i64)).C w A7 l7.length l7)) (HR8 : Aside0 ((Kd.int IntKind.i64).C w A8 l8.length l8)) (HC8 : Aside0 (l8.length ≤ c8)) (HJ12 : Aside0 (kj12 + 1 ≤ k)) (HJ26 : Aside0 (kj26 + 1 ≤ kj12)) (HJ74 : Aside0 (kj74 + 1 ≤ kj26)) (HC132 : Aside0 ((if (t359 != t362) = true then j5 kj74 l3 a4 l5 a6 l7 l8 a9 a10 a11 t357 t358 t359 t363 t371 t372 t379 t380 t381 t385 t389 t390 t393 t401 t402 true else if t357 = t360 then if t358 = t361 then if (t364 != t368) = true then j5 kj74 l3 a4 l5 a6 l7 l8 a9 a10 a11 t357 t358 t359 t363 t371 t372 t379 t380 t381 t385 t389 t390 t393 t401 t402 true else (laws_wSame.f kj74 t363 t367).bind fun (t409 : Bool) => if t409 = true then if (t372 != t376) = true then j5 kj74 l3 a4 l5 a6 l7 l8 a9 a10 a11 t357 t358 t359 t363 t371 t372 t379 t380 t381 t385 t389 t390 t393 t401 t402 true else (laws_wSame.f kj74 t371 t375).bind fun (t410 : Bool) => if t410 = true then if (t381 != t384) = true then j5 kj74 l3 a4 l5 a6 l7 l8 a9 a10 a11 t357 t358 t359 t363 t371 t372 t379 t380 t381 t385 t389 t390 t393 t401 t402 true else if t379 = t382 then if t380 = t383 then if (t386 != t388) = true then j5 kj74 l3 a4 l5 a6 l7 l8 a9 a10 a11 t357 t358 t359 t363 t371 t372 t379 t380 t381 t385 t389 t390 t393 t401 t402 true else if t385 = t387 then if (t390 != t392) = true then j5 kj74 l3 a4 l5 a6 l7 l8 a9 a10 a11 t357 t358 t359 t363 t371 t372 t379 t380 t381 t385 t389 t390 t393 t401 t402 true else if t389.toList = t391.toList then if (t394 != t398) = true then j5 kj74 l3 a4 l5 a6 l7 l8 a9 a10 a11 t357 t358 t359 t363 t371 t372 t379 t380 t381 t385 t389 t390 t393 t401 t402 true else (laws_wSame.f kj74 t393 t397).bind fun (t411 : Bool) => if t411 = true then if (t402 != t406) = true then j5 kj74 l3 a4 l5 a6 l7 l8 a9 a10 a11 t357 t358 t359 t363 t371 t372 t379 t380 t381 t385 t389 t390 t393 t401 t402 true else (laws_wSame.f kj74 t401 t405).bind fun (t412 : Bool) => if t412 = true then if (t364 != t359) = true then j5 kj74 l3 a4 l5 a6 l7 l8 a9 a10 a11 t357 t358 t359 t363 t371 t372 t379 t380 t381 t385 t389 t390 t393 t401 t402 true else if (t386 != t390) = true then j5 kj74 l3 a4 l5 a6 l7 l8 a9 a10 a11 t357 t358 t359 t363 t371 t372 t379 t380 t381 t385 t389 t390 t393 t401 t402 true else if (t394 != t390) = true then j5 kj74 l3 a4 l5 a6 l7 l8 a9 a10 a11 t357 t358 t359 t363 t371 t372 t379 t380 t381 t385 t389 t390 t393 t401 t402 true else (impl_AreBears.f kj74 l3).bind fun (t413 : Bool) => j5 kj74 l3 a4 l5 a6 l7 l8 a9 a10 a11 t357 t358 t359 t363 t371 t372 t379 t380 t381 t385 t389 t390 t393 t401 t402 (t390 != t413) else j5 kj74 l3 a4 l5 a6 l7 l8 a9 a10 a11 t357 t358 t359 t363 t371 t372 t379 t380 t381 t385 t389 t390 t393 t401 t402 true else j5 kj74 l3 a4 l5 a6 l7 l8 a9 a10 a11 t357 t358 t359 t363 t371 t372 t379 t380 t381 t385 t389 t390 t393 t401 t402 true else j5 kj74 l3 a4 l5 a6 l7 l8 a9 a10 a11 t357 t358 t359 t363 t371 t372 t379 t380 t381 t385 t389 t390 t393 t401 t402 true else j5 kj74 l3 a4 l5 a6 l7 l8 a9 a10 a11 t357 t358 t359 t363 t371 t372 t379 t380 t381 t385 t389 t390 t393 t401 t402 true else j5 kj74 l3 a4 l5 a6 l7 l8 a9 a10 a11 t357 t358 t359 t363 t371 t372 t379 t380 t381 t385 t389 t390 t393 t401 t402 true else j5 kj74 l3 a4 l5 a6 l7 l8 a9 a10 a11 t357 t358 t359 t363 t371 t372 t379 t380 t381 t385 t389 t390 t393 t401 t402 true else j5 kj74 l3 a4 l5 a6 l7 l8 a9 a10 a11 t357 t358 t359 t363 t371 t372 t379 t380 t381 t385 t389 t390 t393 t401 t402 true else j5 kj74 l3 a4 l5 a6 l7 l8 a9 a10 a11 t357 t358 t359 t363 t371 t372 t379 t380 t381 t385 t389 t390 t393 t401 t402 true else j5 kj74 l3 a4 l5 a6 l7 l8 a9 a10 a11 t357 t358 t359 t363 t371 t372 t379 t380 t381 t385 t389 t390 t393 t401 t402 true else j5 kj74 l3 a4 l5 a6 l7 l8 a9 a10 a11 t357 t358 t359 t363 t371 t372 t379 t380 t381 t385 t389 t390 t393 t401 t402 true) = some r)) (HO_5 : Aside0 ((Kd.int IntKind.i64).V 3 w147 w.heap.size (fun (k : Nat) => ((((((((P5_ k ∨ w.heap.size ≤ k) ∧ some k ≠ v365.ownBlock) ∧ some k ≠ v369.ownBlock) ∧ some k ≠ v373.ownBlock) ∧ some k ≠ v377.ownBlock) ∧ some k ≠ v395.ownBlock) ∧ some k ≠ v399.ownBlock) ∧ some k ≠ v403.ownBlock) ∧ some k ≠ v407.ownBlock) (Value.slice A5 l5.length c5) l5)) (HB : Aside0 (Below w.heap.size w w147)) (hcut : ∃ (kq : Nat), ∃ (x506_131 : Bool), g6 = Value.bool x506_131 ∧ Aside0 (j5 kq l3 a4 l5 a6 l7 l8 a9 a10 a11 t357 t358 t359 t363 t371 t372 t379 t380 t381 t385 t389 t390 t393 t401 t402 x506_131 = some r) ∧ Aside0 (kq ≤ kj74) ∧ Aside0 ((Kd.int IntKind.i64).V 3 wc w.heap.size (fun (k_ : Nat) => (P5_ k_ ∨ w.heap.size ≤ k_) ∧ some k_ ≠ v365.ownBlock ∧ some k_ ≠ v373.ownBlock ∧ some k_ ≠ v395.ownBlock ∧ some k_ ≠ v403.ownBlock) (Value.slice A5 l5.length c5) l5) ∧ Aside0 ((Kd.int IntKind.i64).R 3 wc w.heap.size (fun (k_ : Nat) => w.heap.size ≤ k_ ∧ some k_ ≠ v373.ownBlock ∧ some k_ ≠ v395.ownBlock ∧ some k_ ≠ v403.ownBlock) v365 t363) ∧ Aside0 ((Kd.int IntKind.i64).R 3 wc w.heap.size (fun (k_ : Nat) => w.heap.size ≤ k_ ∧ some k_ ≠ v365.ownBlock ∧ some k_ ≠ v395.ownBlock ∧ some k_ ≠ v403.ownBlock) v373 t371) ∧ Aside0 ((Kd.int IntKind.i64).R 3 wc w.heap.size (fun (k_ : Nat) => w.heap.size ≤ k_ ∧ some k_ ≠ v365.ownBlock ∧ some k_ ≠ v373.ownBlock ∧ some k_ ≠ v403.ownBlock) v395 t393) ∧ Aside0 ((Kd.int IntKind.i64).R 3 wc w.heap.size (fun (k_ : Nat) => w.heap.size ≤ k_ ∧ some k_ ≠ v365.ownBlock ∧ some k_ ≠ v373.ownBlock ∧ some k_ ≠ v395.ownBlock) v403 t401) ∧ Aside0 (Below w.heap.size w wc)) (K1_ : Act → World → Prop) (hK1_ : ∀ (a_ : Act) (w_ : World), Code.wp Tryz.prog (second_ (second_ (second_ (second_ (second_ (second_ (second_ (second_ (second_ (second_ (second_ (second_ (second_ (second_ (second_ (second_ (second_ (second_ (second_ (second_ (second_ (second_ (second_ (second_ (second_ (second_ (second_ (body_ Tryz.f3)))))))))))))))))))))))))))) (bodyPost Tryz.prog Tryz.f3 (fun e w' => e = .returned (.bool r) ∧ Below w.heap.size w w')) a_ w_ → K1_ a_ w_) : Code.wp Tryz.prog (second_ (first_ (second_ (second_ (second_ (second_ (second_ (second_ (second_ (second_ (second_ (second_ (second_ (second_ (second_ (second_ (second_ (second_ (second_ (second_ (second_ (second_ (second_ (second_ (second_ (second_ (second_ (second_ (body_ Tryz.f3))))))))))))))))))))))))))))) (Exit.then K1_ (bodyPost Tryz.prog Tryz.f3 (fun e w' => e = .returned (.bool r) ∧ Below w.heap.size w w'))) { tmps := #[.slice A0 l0.length c0, .int .i64 a1, .slice A2 l2.length c2, .slice A3 l3.length c3, .int .i64 a4, .slice A5 l5.length c5, .int .i64 a6, .slice A7 l7.length c7, .slice A8 l8.length c8, .int .i64 a9, .int .i64 a10, .string a11, undef, undef, undef, undef, undef, undef, undef, undef, undef, undef, undef, undef, d8, v325, .bool t327, v330, .bool t329, .bool t332, .bool t333, .bool t334, .bool t335, .int .i64 t336, .bool t337, .int .i64 t338, .bool t339, d9, dA, dB, dC, .int .i64 t357, .int .i64 t358, .bool t359, .int .i64 t360, .int .i64 t361, .bool t362, v365, .bool t364, v369, .bool t368, v373, .bool t372, v377, .bool t376, .int .i64 t379, .int .i64 t380, .bool t381, .int .i64 t382, .int .i64 t383, .bool t384, .int .i64 t385, .bool t386, .int .i64 t387, .bool t388, .string t389, .bool t390, .string t391, .bool t392, v395, .bool t394, v399, .bool t398, v403, .bool t402, v407, .bool t406, undef, undef, undef, undef, undef, undef, undef, undef, undef, undef, undef, undef, undef, undef, undef, undef, undef, undef, undef, ba, bb, bc, bd, be, bf, bg, bh, bi, bj, bk, bl, bm, bn, bo, bp, bq, br, bs, bt, bu, bv, bw, bx, bz, b0, b1, b2, b3, b4, b5, b6, g7, g8, g9, gA, gB, gC, gD, gE, gF, gG, gH, gI, gJ, gK, gL, gM, gN, gO, gP, gQ, gR, gS, gT, gU, gV, gW, gX, gY, gZ, ma, mb, mc, md, me, mf, mg, mh, mi, mj, ml, mm, b7, b8, b9, bA, bB, bC, bD, bE, bF, bG, bH, bI, bJ, bK, bL, bM, bN, bO, bP, bQ, bR, bS, bT, bU, bV, bW, bX, bY, bZ, da, db, dc, dd, de, df, dg, dh, di, dj, dk, dl, dm, dn, dp, dq, dr, ds, dt, du, dv, dw, dx, dy, dz, d0, d1, d2, d3, d4, d5, d6, d7, mn, dD, dE, dF, dG, dH, dI, dJ, dK, dL, dM, dN, dO, dP, dQ, dR, dS, dT, dU, dV, dW, dX, dY, dZ, ea, eb, ec, ed, ee, ef, eg, eh, ei, ej, ek, el, em, en, eo, ep, eq, er, es, et, eu, ev, ew, ex, ey, ez, e0, e1, e2, e3, e4, e5, e6, e7, e8, e9, eA, eB, eC, eD, eE, eF, eG, mo, mq, mr, ms, mt, mu, mv, mw, mx, my, mz, m0, m1, m2, m3, m4, m5, m6, m7, m8, m9, mA, mB, mC, mD, mE, mF, mG, mH, mI, mJ, mK, mL, mM, mN, mO, mP, mQ, mR, mS, mT, mU, mV, mW, mX, mY, mZ, na, nb, nc, ne, nf, ng, nh, ni, nj, nk, nl, nm, nn, no, np, nq, nr, ns, nt, nu, nv, nw, nx, ny, nz, n0, n1, n2, n3, n4, n5, n6, n7, n8, n9, nA, nB, nC, nD, nE, nF, nG, nH, nI, nJ, nK, nL, nM, nN, eH, eI, eJ, eK, eL, eM, eN, eO, eP, eQ, eR, eS, eT, eU, eV, eW, eX, eY, eZ, fa, fb, fc, fd, fe, ff, fg, fh, fi, fj, fk, fl, fm, fn, fo, fp, fq, fr, fs, ft, fu, fv, fw, fx, fy, fz, f0, f1, f2, f3, f4, f5, f6, f7, f8, f9, fA, fB, fC, fD, fE, fF, fG, fH, fI, fJ, fK, fL, fM, fN, fO, fP, fQ, fR, fS, fT, fU, fV, fW, fX, fY, fZ, ga, gb, gc, gd, ge, gf, gg, gh, gi, gj, gl, gm, gn, go, gp, gq, gr, gs, gt, gu, gv, gw, gx, gy, gz, g0, g1, g2, g3, g4, g5, g6, undef, undef, undef, undef, undef, undef, undef, undef, undef, undef, undef, undef, undef, undef, undef, undef, undef, undef, undef, undef, undef, undef, undef, undef, undef, undef, undef, undef, undef, undef, undef, undef, undef, undef, undef, undef, undef, undef, undef, undef, undef, undef, undef, undef, undef, undef, undef, undef, undef, undef, undef, undef, undef, undef, undef, undef, undef, undef, undef, undef, undef, undef, undef, undef, undef, undef, undef, undef, undef, undef, undef, undef, undef, undef, undef, undef, undef, undef, undef, undef, undef, undef, undef, undef, undef, undef, undef, undef, undef, undef, undef, undef, undef, undef, undef, undef, undef, undef, undef, undef, undef, undef, undef, undef, undef, undef, undef, undef, undef, undef, undef, undef, undef, undef, undef, undef, undef, undef, undef, undef, undef, undef, undef, undef, undef, undef, undef, undef, undef, undef, undef, undef, undef, undef, undef, undef, undef, undef, undef, undef, undef, undef, undef, undef, undef, undef, undef, undef, undef, undef, undef, undef, undef, undef, undef, undef, undef, undef, undef, undef, undef, undef, undef, undef, undef, undef, undef, undef, undef, undef, undef, undef, undef, undef, undef, undef, undef, undef, undef, undef, undef, undef, undef, undef, undef, undef, undef, undef, undef, undef, undef, undef, undef, undef, undef, undef, undef, undef, undef, undef, undef], defers := [] } wc := by
 dsimp only [second_, first_, body_, Tryz.f3] at hK1_ ⊢
 clear HC132
 (try clear c21); (try clear c22); (try clear c23); (try clear c24); (try clear c25); (try clear c26); (try clear c27); (try clear c28); (try clear c29); (try clear c30); (try clear c148); (try clear c148b0); (try clear c148b1); (try clear c148b2); (try clear c149); (try clear c149b0); (try clear c149b1); (try clear c150); (try clear c150b0); (try clear c150b1); (try clear c151); (try clear c151b0); (try clear c151b1); (try clear c151b2); (try clear c153); (try clear c154); (try clear c154b0); (try clear c154b1); (try clear c154b2); (try clear c158); (try clear c159); (try clear c159b0); (try clear c159b1); (try clear c159b2); (try clear c164); (try clear c164b0); (try clear c164b1); (try clear c165); (try clear c165b0); (try clear c165b1); (try clear c166); (try clear c166b0); (try clear c166b1); (try clear c166b2); (try clear c171); (try clear c171b0); (try clear c171b1); (try clear c172); (try clear c172b0); (try clear c172b1); (try clear c172b2); (try clear c177); (try clear c177b0); (try clear c177b1); (try clear c178); (try clear c178b0); (try clear c178b1); (try clear c178b2); (try clear c184); (try clear c185); (try clear c185b0); (try clear c185b1); (try clear c185b2); (try clear c193); (try clear c194); (try clear c194b0); (try clear c194b1); (try clear c194b2); (try clear c203); (try clear c203b0); (try clear c203b1); (try clear c203b2); (try clear c212); (try clear c212b0); (try clear c212b1); (try clear c212b2)
 obtain ⟨kq, x506_131, rfl, HA, HJ131, HO_5, HO_47, HO_51, HO_69, HO_73, HB⟩ := hcut
 cases kq with
 | zero => exact absurd HA.out (by simp [laws_FnStepsWornOfAll.j5])
 | succ kj131 =>
  have H := HA.out
  clear HA
  simp only [laws_FnStepsWornOfAll.j5] at H
  by_cases c266 : x506_131 = true
  ·subst c266
   have H1 : (some false) = some r := by rw [if_pos rfl] at H; exact H
   clear H
   have H := H1
   clear H1
   obtain rfl := Option.some.inj H
   go_wp2
   go_ret
   exact ⟨Zb, BS HB.out⟩
  ·replace c266 := Bool.eq_false_iff.mpr c266
   subst c266
   have H1 : (if t359 = true then ((impl_MostWears.f kj131 l3 a4).bind fun bt414 => ((impl_MostWears.f kj131 t393 a4).bind fun bt416 => (if bt414.2 = true then (if bt414.1 = t358 then (if bt416.2 = true then (if bt416.1 = bt414.1 then (if (t363.length : Int) = (wrap64 ((wrap64 ((l3.length : Int) - a4)) + 1)) then (if t357 < 1 then (laws_FnStepsWornOfAll.j6 kj131 l3 a4 l5 a6 l7 l8 a9 a10 a11 t357 t358 t363 t371 t372 t379 t380 t381 t385 t389 t390 t401 t402 true) else (if t357 > (t363.length : Int) then (laws_FnStepsWornOfAll.j6 kj131 l3 a4 l5 a6 l7 l8 a9 a10 a11 t357 t358 t363 t371 t372 t379 t380 t381 t385 t389 t390 t401 t402 true) else (if 0 ≤ (wrap64 (t357 - 1)) then (if (wrap64 (t357 - 1)) < (t363.length : Int) then (laws_FnStepsWornOfAll.j6 kj131 l3 a4 l5 a6 l7 l8 a9 a10 a11 t357 t358 t363 t371 t372 t379 t380 t381 t385 t389 t390 t401 t402 ((rd t363 (wrap64 (t357 - 1))) != t358)) else (none)) else (none)))) else (laws_FnStepsWornOfAll.j6 kj131 l3 a4 l5 a6 l7 l8 a9 a10 a11 t357 t358 t363 t371 t372 t379 t380 t381 t385 t389 t390 t401 t402 true)) else (laws_FnStepsWornOfAll.j6 kj131 l3 a4 l5 a6 l7 l8 a9 a10 a11 t357 t358 t363 t371 t372 t379 t380 t381 t385 t389 t390 t401 t402 true)) else (laws_FnStepsWornOfAll.j6 kj131 l3 a4 l5 a6 l7 l8 a9 a10 a11 t357 t358 t363 t371 t372 t379 t380 t381 t385 t389 t390 t401 t402 true)) else (laws_FnStepsWornOfAll.j6 kj131 l3 a4 l5 a6 l7 l8 a9 a10 a11 t357 t358 t363 t371 t372 t379 t380 t381 t385 t389 t390 t401 t402 true)) else (laws_FnStepsWornOfAll.j6 kj131 l3 a4 l5 a6 l7 l8 a9 a10 a11 t357 t358 t363 t371 t372 t379 t380 t381 t385 t389 t390 t401 t402 true)))) else (laws_FnStepsWornOfAll.j8 kj131 l3 l5 a6 l7 l8 a9 a10 a11 t371 t372 t379 t380 t381 t385 t389 t390 t401 t402)) = some r := by rw [if_neg (show ¬ (false = true) by decide)] at H; exact H
   clear H
   have H := H1
   clear H1
   have HC267 := Aside0.mk H
   clear H
   go_upto_if 507 with (fail)
   go_cut [] from 507 to 507 (fun wc => ∃ (kq : Nat), Aside0 (laws_FnStepsWornOfAll.j8 kq l3 l5 a6 l7 l8 a9 a10 a11 t371 t372 t379 t380 t381 t385 t389 t390 t401 t402 = some r) ∧ Aside0 (kq ≤ kj131) ∧ Aside0 (Kd.V (Kd.int .i64) 3 wc w.heap.size (fun k_ => (P5_ k_ ∨ w.heap.size ≤ k_) ∧ some k_ ≠ (v373 : Value).ownBlock ∧ some k_ ≠ (v403 : Value).ownBlock) (.slice A5 l5.length c5) l5) ∧ Aside0 (Kd.R (Kd.int .i64) 3 wc w.heap.size (fun k_ => (w.heap.size ≤ k_) ∧ some k_ ≠ (v403 : Value).ownBlock) v373 t371) ∧ Aside0 (Kd.R (Kd.int .i64) 3 wc w.heap.size (fun k_ => (w.heap.size ≤ k_) ∧ some k_ ≠ (v373 : Value).ownBlock) v403 t401) ∧ Aside0 (Below w.heap.size w wc))
   case first =>
    have H := HC267.out
    clear HC267
    by_cases c268 : t359 = true
    ·subst c268
     have H1 : ((impl_MostWears.f kj131 l3 a4).bind fun bt414 => ((impl_MostWears.f kj131 t393 a4).bind fun bt416 => (if bt414.2 = true then (if bt414.1 = t358 then (if bt416.2 = true then (if bt416.1 = bt414.1 then (if (t363.length : Int) = (wrap64 ((wrap64 ((l3.length : Int) - a4)) + 1)) then (if t357 < 1 then (laws_FnStepsWornOfAll.j6 kj131 l3 a4 l5 a6 l7 l8 a9 a10 a11 t357 t358 t363 t371 t372 t379 t380 t381 t385 t389 t390 t401 t402 true) else (if t357 > (t363.length : Int) then (laws_FnStepsWornOfAll.j6 kj131 l3 a4 l5 a6 l7 l8 a9 a10 a11 t357 t358 t363 t371 t372 t379 t380 t381 t385 t389 t390 t401 t402 true) else (if 0 ≤ (wrap64 (t357 - 1)) then (if (wrap64 (t357 - 1)) < (t363.length : Int) then (laws_FnStepsWornOfAll.j6 kj131 l3 a4 l5 a6 l7 l8 a9 a10 a11 t357 t358 t363 t371 t372 t379 t380 t381 t385 t389 t390 t401 t402 ((rd t363 (wrap64 (t357 - 1))) != t358)) else (none)) else (none)))) else (laws_FnStepsWornOfAll.j6 kj131 l3 a4 l5 a6 l7 l8 a9 a10 a11 t357 t358 t363 t371 t372 t379 t380 t381 t385 t389 t390 t401 t402 true)) else (laws_FnStepsWornOfAll.j6 kj131 l3 a4 l5 a6 l7 l8 a9 a10 a11 t357 t358 t363 t371 t372 t379 t380 t381 t385 t389 t390 t401 t402 true)) else (laws_FnStepsWornOfAll.j6 kj131 l3 a4 l5 a6 l7 l8 a9 a10 a11 t357 t358 t363 t371 t372 t379 t380 t381 t385 t389 t390 t401 t402 true)) else (laws_FnStepsWornOfAll.j6 kj131 l3 a4 l5 a6 l7 l8 a9 a10 a11 t357 t358 t363 t371 t372 t379 t380 t381 t385 t389 t390 t401 t402 true)) else (laws_FnStepsWornOfAll.j6 kj131 l3 a4 l5 a6 l7 l8 a9 a10 a11 t357 t358 t363 t371 t372 t379 t380 t381 t385 t389 t390 t401 t402 true)))) = some r := by rw [if_pos rfl] at H; exact H
     clear H
     have H := H1
     clear H1
     replace H := Option.bind_eq_some_iff.mp H
     obtain ⟨⟨t414, t415⟩, A2690, H⟩ := H
     try dsimp only at H
     have A269 := Aside0.mk A2690
     clear A2690
     replace H := Option.bind_eq_some_iff.mp H
     obtain ⟨⟨t416, t417⟩, A2700, H⟩ := H
     try dsimp only at H
     have A270 := Aside0.mk A2700
     clear A2700
     have HC271 := Aside0.mk H
     clear H
     go_upto_region 45 with (first | ((with_reducible refine gate_callee (f := 8) rfl ?_); refine goesL_ (some 511) rfl rfl Tryz.func8 (by kernel_rfl) rfl #[.slice A3 l3.length c3, .int .i64 a4] rfl Zc ?_; (with_reducible refine (impl_MostWears.calls kj131 _ _ l3 a4 t414 t415 _ ?side1 ?side2 A269.out).mono ?_); (case side1 => exact CS (Kd.C_below HR3.out HB.out)); (case side2 => exact HC3.out); rintro e w272 ⟨rfl, hb⟩; refine ⟨_, rfl, ?_⟩; have n0_ := Aside0.mk (Kd.V_below (VS HO_5.out) hb); have n1_ := Aside0.mk (Kd.R_below (RS HO_47.out) hb); have n2_ := Aside0.mk (Kd.R_below (RS HO_51.out) hb); have n3_ := Aside0.mk (Kd.R_below (RS HO_69.out) hb); have n4_ := Aside0.mk (Kd.R_below (RS HO_73.out) hb); have n5_ := Aside0.mk (below_step (BS HB.out) hb); clear HO_5; clear HO_47; clear HO_51; clear HO_69; clear HO_73; clear HB; have HO_5 := n0_; have HO_47 := n1_; have HO_51 := n2_; have HO_69 := n3_; have HO_73 := n4_; have HB := n5_; clear n0_ n1_ n2_ n3_ n4_ n5_; (try clear hb); (try clear hb2); (try clear hk); (try clear hi); obtain ⟨Ao273, co273, eo273⟩ := Kd.R_slice HO_69.out; subst eo273) | ((with_reducible refine gate_callee (f := 8) rfl ?_); refine goesL_ (some 517) rfl rfl Tryz.func8 (by kernel_rfl) rfl #[.slice Ao273 t393.length co273, .int .i64 a4] rfl Zc ?_; (with_reducible refine (impl_MostWears.calls kj131 _ _ t393 a4 t416 t417 _ ?side1 ?side2 A270.out).mono ?_); (case side1 => exact CS (Kd.R_reads' HO_69.out).2.2); (case side2 => exact (Kd.R_reads' HO_69.out).2.1); rintro e w274 ⟨rfl, hb⟩; refine ⟨_, rfl, ?_⟩; have n0_ := Aside0.mk (Kd.V_below (VS HO_5.out) hb); have n1_ := Aside0.mk (Kd.R_below (RS HO_47.out) hb); have n2_ := Aside0.mk (Kd.R_below (RS HO_51.out) hb); have n3_ := Aside0.mk (Kd.R_below (RS HO_69.out) hb); have n4_ := Aside0.mk (Kd.R_below (RS HO_73.out) hb); have n5_ := Aside0.mk (below_step (BS HB.out) hb); clear HO_5; clear HO_47; clear HO_51; clear HO_69; clear HO_73; clear HB; have HO_5 := n0_; have HO_47 := n1_; have HO_51 := n2_; have HO_69 := n3_; have HO_73 := n4_; have HB := n5_; clear n0_ n1_ n2_ n3_ n4_ n5_; (try clear hb); (try clear hb2); (try clear hk); (try clear hi)))
     (try simp only [Act.put, List.setIfInBounds_toArray, List.set_cons_zero, List.set_cons_succ])
     go_cut [564] from 564 to 564 (fun v564 wc => ∃ (kq : Nat) (x564_270 : Bool), v564 = .bool x564_270 ∧ Aside0 (laws_FnStepsWornOfAll.j6 kq l3 a4 l5 a6 l7 l8 a9 a10 a11 t357 t358 t363 t371 t372 t379 t380 t381 t385 t389 t390 t401 t402 x564_270 = some r) ∧ Aside0 (kq ≤ kj131) ∧ Aside0 (Kd.V (Kd.int .i64) 3 wc w.heap.size (fun k_ => (P5_ k_ ∨ w.heap.size ≤ k_) ∧ some k_ ≠ (v365 : Value).ownBlock ∧ some k_ ≠ (v373 : Value).ownBlock ∧ some k_ ≠ (v403 : Value).ownBlock) (.slice A5 l5.length c5) l5) ∧ Aside0 (Kd.R (Kd.int .i64) 3 wc w.heap.size (fun k_ => (w.heap.size ≤ k_) ∧ some k_ ≠ (v373 : Value).ownBlock ∧ some k_ ≠ (v403 : Value).ownBlock) v365 t363) ∧ Aside0 (Kd.R (Kd.int .i64) 3 wc w.heap.size (fun k_ => (w.heap.size ≤ k_) ∧ some k_ ≠ (v365 : Value).ownBlock ∧ some k_ ≠ (v403 : Value).ownBlock) v373 t371) ∧ Aside0 (Kd.R (Kd.int .i64) 3 wc w.heap.size (fun k_ => (w.heap.size ≤ k_) ∧ some k_ ≠ (v365 : Value).ownBlock ∧ some k_ ≠ (v373 : Value).ownBlock) v403 t401) ∧ Aside0 (Below w.heap.size w wc))
     case first =>
      have H := HC271.out
      clear HC271
      by_cases c275 : t415 = true
      ·subst c275
       have H1 : (if t414 = t358 then (if t417 = true then (if t416 = t414 then (if (t363.length : Int) = (wrap64 ((wrap64 ((l3.length : Int) - a4)) + 1)) then (if t357 < 1 then (laws_FnStepsWornOfAll.j6 kj131 l3 a4 l5 a6 l7 l8 a9 a10 a11 t357 t358 t363 t371 t372 t379 t380 t381 t385 t389 t390 t401 t402 true) else (if t357 > (t363.length : Int) then (laws_FnStepsWornOfAll.j6 kj131 l3 a4 l5 a6 l7 l8 a9 a10 a11 t357 t358 t363 t371 t372 t379 t380 t381 t385 t389 t390 t401 t402 true) else (if 0 ≤ (wrap64 (t357 - 1)) then (if (wrap64 (t357 - 1)) < (t363.length : Int) then (laws_FnStepsWornOfAll.j6 kj131 l3 a4 l5 a6 l7 l8 a9 a10 a11 t357 t358 t363 t371 t372 t379 t380 t381 t385 t389 t390 t401 t402 ((rd t363 (wrap64 (t357 - 1))) != t358)) else (none)) else (none)))) else (laws_FnStepsWornOfAll.j6 kj131 l3 a4 l5 a6 l7 l8 a9 a10 a11 t357 t358 t363 t371 t372 t379 t380 t381 t385 t389 t390 t401 t402 true)) else (laws_FnStepsWornOfAll.j6 kj131 l3 a4 l5 a6 l7 l8 a9 a10 a11 t357 t358 t363 t371 t372 t379 t380 t381 t385 t389 t390 t401 t402 true)) else (laws_FnStepsWornOfAll.j6 kj131 l3 a4 l5 a6 l7 l8 a9 a10 a11 t357 t358 t363 t371 t372 t379 t380 t381 t385 t389 t390 t401 t402 true)) else (laws_FnStepsWornOfAll.j6 kj131 l3 a4 l5 a6 l7 l8 a9 a10 a11 t357 t358 t363 t371 t372 t379 t380 t381 t385 t389 t390 t401 t402 true)) = some r := by rw [if_pos rfl] at H; exact H
       clear H
       have H := H1
       clear H1
       by_cases c276 : t414 = t358
       ·rw [if_pos c276] at H
        have c276b0 : (t414 == t358) = true := beq_iff_eq.mpr c276
        have c276b1 : (t414 != t358) = false := bne_eq_false_iff_eq.mpr c276
        clear c276
        (first | rw [c276b0] | (simp only [i64_w, i32_w]; rw [c276b0]) | skip)
        by_cases c277 : t417 = true
        ·subst c277
         have H1 : (if t416 = t414 then (if (t363.length : Int) = (wrap64 ((wrap64 ((l3.length : Int) - a4)) + 1)) then (if t357 < 1 then (laws_FnStepsWornOfAll.j6 kj131 l3 a4 l5 a6 l7 l8 a9 a10 a11 t357 t358 t363 t371 t372 t379 t380 t381 t385 t389 t390 t401 t402 true) else (if t357 > (t363.length : Int) then (laws_FnStepsWornOfAll.j6 kj131 l3 a4 l5 a6 l7 l8 a9 a10 a11 t357 t358 t363 t371 t372 t379 t380 t381 t385 t389 t390 t401 t402 true) else (if 0 ≤ (wrap64 (t357 - 1)) then (if (wrap64 (t357 - 1)) < (t363.length : Int) then (laws_FnStepsWornOfAll.j6 kj131 l3 a4 l5 a6 l7 l8 a9 a10 a11 t357 t358 t363 t371 t372 t379 t380 t381 t385 t389 t390 t401 t402 ((rd t363 (wrap64 (t357 - 1))) != t358)) else (none)) else (none)))) else (laws_FnStepsWornOfAll.j6 kj131 l3 a4 l5 a6 l7 l8 a9 a10 a11 t357 t358 t363 t371 t372 t379 t380 t381 t385 t389 t390 t401 t402 true)) else (laws_FnStepsWornOfAll.j6 kj131 l3 a4 l5 a6 l7 l8 a9 a10 a11 t357 t358 t363 t371 t372 t379 t380 t381 t385 t389 t390 t401 t402 true)) = some r := by rw [if_pos rfl] at H; exact H
         clear H
         have H := H1
         clear H1
         by_cases c278 : t416 = t414
         ·rw [if_pos c278] at H
          have c278b0 : (t416 == t414) = true := beq_iff_eq.mpr c278
          have c278b1 : (t416 != t414) = false := bne_eq_false_iff_eq.mpr c278
          clear c278
          by_cases c279 : (t363.length : Int) = (wrap64 ((wrap64 ((l3.length : Int) - a4)) + 1))
          ·rw [if_pos c279] at H
           have c279b0 : ((t363.length : Int) == (wrap64 ((wrap64 ((l3.length : Int) - a4)) + 1))) = true := beq_iff_eq.mpr c279
           have c279b1 : ((t363.length : Int) != (wrap64 ((wrap64 ((l3.length : Int) - a4)) + 1))) = false := bne_eq_false_iff_eq.mpr c279
           clear c279
           by_cases c280 : t357 < 1
           ·rw [if_pos c280] at H
            have c280b0 : decide (t357 < 1) = true := decide_eq_true c280
            clear c280
            have H' := Aside0.mk H
            clear H
            obtain ⟨Ao281, co281, eo281⟩ := Kd.R_slice HO_47.out
            subst eo281
            go_wp2
            go_meet
            case rel => exact ⟨_, (true), Za, H', ⟨by have := HJ12.out; have := HJ26.out; have := HJ74.out; have := HJ131.out; first | omega | exact Nat.le_refl _⟩, ⟨VS (Kd.V_mono HO_5.out (fun _ hk => ⟨hk.1, ⟨hk.2.1, ⟨hk.2.2.1, hk.2.2.2.2⟩⟩⟩))⟩, ⟨RS (Kd.R_mono HO_47.out (fun _ hk => ⟨hk.1, ⟨hk.2.1, hk.2.2.2⟩⟩))⟩, ⟨RS (Kd.R_mono HO_51.out (fun _ hk => ⟨hk.1, ⟨hk.2.1, hk.2.2.2⟩⟩))⟩, ⟨RS (Kd.R_mono HO_73.out (fun _ hk => ⟨hk.1, ⟨hk.2.1, hk.2.2.1⟩⟩))⟩, ⟨BS HB.out⟩⟩
           ·rw [if_neg c280] at H
            have c280b0 : decide (t357 < 1) = false := decide_eq_false c280
            clear c280
            by_cases c282 : t357 > (t363.length : Int)
            ·rw [if_pos c282] at H
             have c282b0 : decide ((t363.length : Int) < t357) = true := decide_eq_true c282
             clear c282
             have H' := Aside0.mk H
             clear H
             obtain ⟨Ao283, co283, eo283⟩ := Kd.R_slice HO_47.out
             subst eo283
             go_wp2
             go_meet
             case rel => exact ⟨_, (true), Za, H', ⟨by have := HJ12.out; have := HJ26.out; have := HJ74.out; have := HJ131.out; first | omega | exact Nat.le_refl _⟩, ⟨VS (Kd.V_mono HO_5.out (fun _ hk => ⟨hk.1, ⟨hk.2.1, ⟨hk.2.2.1, hk.2.2.2.2⟩⟩⟩))⟩, ⟨RS (Kd.R_mono HO_47.out (fun _ hk => ⟨hk.1, ⟨hk.2.1, hk.2.2.2⟩⟩))⟩, ⟨RS (Kd.R_mono HO_51.out (fun _ hk => ⟨hk.1, ⟨hk.2.1, hk.2.2.2⟩⟩))⟩, ⟨RS (Kd.R_mono HO_73.out (fun _ hk => ⟨hk.1, ⟨hk.2.1, hk.2.2.1⟩⟩))⟩, ⟨BS HB.out⟩⟩
            ·rw [if_neg c282] at H
             have c282b0 : decide ((t363.length : Int) < t357) = false := decide_eq_false c282
             clear c282
             obtain ⟨ji284, hji284⟩ : ∃ j_ : Int, (wrap64 (t357 - 1)) = j_ := ⟨_, rfl⟩
             replace H : (if 0 ≤ (ji284) then (if (ji284) < (t363.length : Int) then (laws_FnStepsWornOfAll.j6 kj131 l3 a4 l5 a6 l7 l8 a9 a10 a11 t357 t358 t363 t371 t372 t379 t380 t381 t385 t389 t390 t401 t402 ((rd t363 (ji284)) != t358)) else (none)) else (none)) = some r := by first | (rw [hji284] at H; exact H) | (simp only [hji284] at H ⊢; exact H)
             have hji284w : (IntKind.i64.wrap (t357 - 1)) = ji284 := (i64_w _).trans hji284
             by_cases c285 : 0 ≤ (ji284)
             ·rw [if_pos c285] at H
              have c285b0 : decide (0 ≤ (ji284)) = true := decide_eq_true c285
              clear c285
              by_cases c286 : (ji284) < (t363.length : Int)
              ·rw [if_pos c286] at H
               have c286b0 : decide ((ji284) < (t363.length : Int)) = true := decide_eq_true c286
               clear c286
               have H' := Aside0.mk H
               clear H
               obtain ⟨Ao287, co287, eo287⟩ := Kd.R_slice HO_47.out
               subst eo287
               have p418 : 0 ≤ ((ji284) : Int) := OD
               have q418 : (ji284) < (t363.length : Int) := OD
               obtain ⟨ad418, e418, hx418_0⟩ := Kd.at_int (Kd.R_reads' HO_47.out).2.2 (ji284) p418 q418
               cases e418
               replace p418 := eq_true p418
               replace q418 := eq_true q418
               go_wp2
               go_meet
               case rel => exact ⟨_, (((rd t363 (ji284)) != t358)), (by first | rfl | (simp; done) | (simp only [← hji284] <;> (first | rfl | simp)) | (simp [*]; done)), H', ⟨by have := HJ12.out; have := HJ26.out; have := HJ74.out; have := HJ131.out; first | omega | exact Nat.le_refl _⟩, ⟨VS (Kd.V_mono HO_5.out (fun _ hk => ⟨hk.1, ⟨hk.2.1, ⟨hk.2.2.1, hk.2.2.2.2⟩⟩⟩))⟩, ⟨RS (Kd.R_mono HO_47.out (fun _ hk => ⟨hk.1, ⟨hk.2.1, hk.2.2.2⟩⟩))⟩, ⟨RS (Kd.R_mono HO_51.out (fun _ hk => ⟨hk.1, ⟨hk.2.1, hk.2.2.2⟩⟩))⟩, ⟨RS (Kd.R_mono HO_73.out (fun _ hk => ⟨hk.1, ⟨hk.2.1, hk.2.2.1⟩⟩))⟩, ⟨BS HB.out⟩⟩
              ·rw [if_neg c286] at H
               exact absurd H (by simp)
             ·rw [if_neg c285] at H
              exact absurd H (by simp)
          ·rw [if_neg c279] at H
           have c279b0 : ((t363.length : Int) == (wrap64 ((wrap64 ((l3.length : Int) - a4)) + 1))) = false := beq_eq_false_iff_ne.mpr c279
           have c279b1 : ((t363.length : Int) != (wrap64 ((wrap64 ((l3.length : Int) - a4)) + 1))) = true := bne_iff_ne.mpr c279
           have H' := Aside0.mk H
           clear H
           obtain ⟨Ao288, co288, eo288⟩ := Kd.R_slice HO_47.out
           subst eo288
           go_wp2
           go_meet
           case rel => exact ⟨_, (true), Za, H', ⟨by have := HJ12.out; have := HJ26.out; have := HJ74.out; have := HJ131.out; first | omega | exact Nat.le_refl _⟩, ⟨VS (Kd.V_mono HO_5.out (fun _ hk => ⟨hk.1, ⟨hk.2.1, ⟨hk.2.2.1, hk.2.2.2.2⟩⟩⟩))⟩, ⟨RS (Kd.R_mono HO_47.out (fun _ hk => ⟨hk.1, ⟨hk.2.1, hk.2.2.2⟩⟩))⟩, ⟨RS (Kd.R_mono HO_51.out (fun _ hk => ⟨hk.1, ⟨hk.2.1, hk.2.2.2⟩⟩))⟩, ⟨RS (Kd.R_mono HO_73.out (fun _ hk => ⟨hk.1, ⟨hk.2.1, hk.2.2.1⟩⟩))⟩, ⟨BS HB.out⟩⟩
         ·rw [if_neg c278] at H
          have c278b0 : (t416 == t414) = false := beq_eq_false_iff_ne.mpr c278
          have c278b1 : (t416 != t414) = true := bne_iff_ne.mpr c278
          have H' := Aside0.mk H
          clear H
          go_wp2
          go_meet
          case rel => exact ⟨_, (true), Za, H', ⟨by have := HJ12.out; have := HJ26.out; have := HJ74.out; have := HJ131.out; first | omega | exact Nat.le_refl _⟩, ⟨VS (Kd.V_mono HO_5.out (fun _ hk => ⟨hk.1, ⟨hk.2.1, ⟨hk.2.2.1, hk.2.2.2.2⟩⟩⟩))⟩, ⟨RS (Kd.R_mono HO_47.out (fun _ hk => ⟨hk.1, ⟨hk.2.1, hk.2.2.2⟩⟩))⟩, ⟨RS (Kd.R_mono HO_51.out (fun _ hk => ⟨hk.1, ⟨hk.2.1, hk.2.2.2⟩⟩))⟩, ⟨RS (Kd.R_mono HO_73.out (fun _ hk => ⟨hk.1, ⟨hk.2.1, hk.2.2.1⟩⟩))⟩, ⟨BS HB.out⟩⟩
        ·replace c277 := Bool.eq_false_iff.mpr c277
         subst c277
         have H1 : (laws_FnStepsWornOfAll.j6 kj131 l3 a4 l5 a6 l7 l8 a9 a10 a11 t357 t358 t363 t371 t372 t379 t380 t381 t385 t389 t390 t401 t402 true) = some r := by rw [if_neg (show ¬ (false = true) by decide)] at H; exact H
         clear H
         have H := H1
         clear H1
         have H' := Aside0.mk H
         clear H
         go_wp2
         go_meet
         case rel => exact ⟨_, (true), Za, H', ⟨by have := HJ12.out; have := HJ26.out; have := HJ74.out; have := HJ131.out; first | omega | exact Nat.le_refl _⟩, ⟨VS (Kd.V_mono HO_5.out (fun _ hk => ⟨hk.1, ⟨hk.2.1, ⟨hk.2.2.1, hk.2.2.2.2⟩⟩⟩))⟩, ⟨RS (Kd.R_mono HO_47.out (fun _ hk => ⟨hk.1, ⟨hk.2.1, hk.2.2.2⟩⟩))⟩, ⟨RS (Kd.R_mono HO_51.out (fun _ hk => ⟨hk.1, ⟨hk.2.1, hk.2.2.2⟩⟩))⟩, ⟨RS (Kd.R_mono HO_73.out (fun _ hk => ⟨hk.1, ⟨hk.2.1, hk.2.2.1⟩⟩))⟩, ⟨BS HB.out⟩⟩
       ·rw [if_neg c276] at H
        have c276b0 : (t414 == t358) = false := beq_eq_false_iff_ne.mpr c276
        have c276b1 : (t414 != t358) = true := bne_iff_ne.mpr c276
        (first | rw [c276b0] | (simp only [i64_w, i32_w]; rw [c276b0]) | skip)
        have H' := Aside0.mk H
        clear H
        go_wp2
        go_meet
        case rel => exact ⟨_, (true), Za, H', ⟨by have := HJ12.out; have := HJ26.out; have := HJ74.out; have := HJ131.out; first | omega | exact Nat.le_refl _⟩, ⟨VS (Kd.V_mono HO_5.out (fun _ hk => ⟨hk.1, ⟨hk.2.1, ⟨hk.2.2.1, hk.2.2.2.2⟩⟩⟩))⟩, ⟨RS (Kd.R_mono HO_47.out (fun _ hk => ⟨hk.1, ⟨hk.2.1, hk.2.2.2⟩⟩))⟩, ⟨RS (Kd.R_mono HO_51.out (fun _ hk => ⟨hk.1, ⟨hk.2.1, hk.2.2.2⟩⟩))⟩, ⟨RS (Kd.R_mono HO_73.out (fun _ hk => ⟨hk.1, ⟨hk.2.1, hk.2.2.1⟩⟩))⟩, ⟨BS HB.out⟩⟩
      ·replace c275 := Bool.eq_false_iff.mpr c275
       subst c275
       have H1 : (laws_FnStepsWornOfAll.j6 kj131 l3 a4 l5 a6 l7 l8 a9 a10 a11 t357 t358 t363 t371 t372 t379 t380 t381 t385 t389 t390 t401 t402 true) = some r := by rw [if_neg (show ¬ (false = true) by decide)] at H; exact H
       clear H
       have H := H1
       clear H1
       have H' := Aside0.mk H
       clear H
       go_wp2
       go_meet
       case rel => exact ⟨_, (true), Za, H', ⟨by have := HJ12.out; have := HJ26.out; have := HJ74.out; have := HJ131.out; first | omega | exact Nat.le_refl _⟩, ⟨VS (Kd.V_mono HO_5.out (fun _ hk => ⟨hk.1, ⟨hk.2.1, ⟨hk.2.2.1, hk.2.2.2.2⟩⟩⟩))⟩, ⟨RS (Kd.R_mono HO_47.out (fun _ hk => ⟨hk.1, ⟨hk.2.1, hk.2.2.2⟩⟩))⟩, ⟨RS (Kd.R_mono HO_51.out (fun _ hk => ⟨hk.1, ⟨hk.2.1, hk.2.2.2⟩⟩))⟩, ⟨RS (Kd.R_mono HO_73.out (fun _ hk => ⟨hk.1, ⟨hk.2.1, hk.2.2.1⟩⟩))⟩, ⟨BS HB.out⟩⟩
     case rest =>
      clear HC271
      (try clear p4); (try clear q4); (try clear hx4); (try clear p41); (try clear q41); (try clear hx41); (try clear c266); (try clear c268); (try clear c275); (try clear c276); (try clear c276b0); (try clear c276b1); (try clear c277); (try clear c278); (try clear c278b0); (try clear c278b1); (try clear c279); (try clear c279b0); (try clear c279b1); (try clear c280); (try clear c280b0); (try clear c282); (try clear c282b0); (try clear c285); (try clear c285b0); (try clear c286); (try clear c286b0); (try clear hx418_0); (try clear p418); (try clear q418)
      obtain ⟨kq, x564_270, rfl, HA, HJ270, HO_5, HO_47, HO_51, HO_73, HB⟩ := hcut
      cases kq with
      | zero => exact absurd HA.out (by simp [laws_FnStepsWornOfAll.j6])
      | succ kj270 =>
       have H := HA.out
       clear HA
       simp only [laws_FnStepsWornOfAll.j6] at H
       by_cases c289 : x564_270 = true
       ·subst c289
        have H1 : (some false) = some r := by rw [if_pos rfl] at H; exact H
        clear H
        have H := H1
        clear H1
        obtain rfl := Option.some.inj H
        go_wp2
        go_ret
        exact ⟨Zb, BS HB.out⟩
       ·replace c289 := Bool.eq_false_iff.mpr c289
        subst c289
        have H1 : (laws_FnStepsWornOfAll.l1 kj270 l3 a4 l5 a6 l7 l8 a9 a10 a11 t357 t358 t371 t372 t379 t380 t381 t385 t389 t390 t401 t402 t363 (t363.length : Int) 0) = some r := by rw [if_neg (show ¬ (false = true) by decide)] at H; exact H
        clear H
        have H := H1
        clear H1
        have H' := Aside0.mk H
        clear H
        obtain ⟨Ao290, co290, eo290⟩ := Kd.R_slice HO_47.out
        subst eo290
        go_wp2
        go_loopg [567] kj270 (fun kq v567 w' => ∃ (x567_6 : Int), v567 = .int .i64 x567_6 ∧ Aside0 (laws_FnStepsWornOfAll.l1 kq l3 a4 l5 a6 l7 l8 a9 a10 a11 t357 t358 t371 t372 t379 t380 t381 t385 t389 t390 t401 t402 t363 (t363.length : Int) x567_6 = some r) ∧ Aside0 (kq ≤ kj270) ∧ Aside0 (Kd.V (Kd.int .i64) 3 w' w.heap.size (fun k_ => (P5_ k_ ∨ w.heap.size ≤ k_) ∧ some k_ ≠ (v373 : Value).ownBlock ∧ some k_ ≠ (v403 : Value).ownBlock ∧ some k_ ≠ ((.slice Ao290 t363.length co290) : Value).ownBlock) (.slice A5 l5.length c5) l5) ∧ Aside0 (Kd.R (Kd.int .i64) 3 w' w.heap.size (fun k_ => (w.heap.size ≤ k_) ∧ some k_ ≠ (v403 : Value).ownBlock ∧ some k_ ≠ ((.slice Ao290 t363.length co290) : Value).ownBlock) v373 t371) ∧ Aside0 (Kd.R (Kd.int .i64) 3 w' w.heap.size (fun k_ => (w.heap.size ≤ k_) ∧ some k_ ≠ (v373 : Value).ownBlock ∧ some k_ ≠ ((.slice Ao290 t363.length co290) : Value).ownBlock) v403 t401) ∧ Aside0 (Kd.R (Kd.int .i64) 3 w' w.heap.size (fun k_ => (w.heap.size ≤ k_) ∧ some k_ ≠ (v373 : Value).ownBlock ∧ some k_ ≠ (v403 : Value).ownBlock) (.slice Ao290 t363.length co290) t363) ∧ Aside0 (Below w.heap.size w w'))
        case atStart => exact ⟨(0), Za, H', ⟨Nat.le_refl _⟩, ⟨VS (Kd.V_mono HO_5.out (fun _ hk => ⟨hk.1, ⟨hk.2.2.1, ⟨hk.2.2.2, hk.2.1⟩⟩⟩))⟩, ⟨RS (Kd.R_mono HO_51.out (fun _ hk => ⟨hk.1, ⟨hk.2.2, hk.2.1⟩⟩))⟩, ⟨RS (Kd.R_mono HO_73.out (fun _ hk => ⟨hk.1, ⟨hk.2.2, hk.2.1⟩⟩))⟩, ⟨RS HO_47.out⟩, ⟨BS HB.out⟩⟩
        case round =>
         clear H'
         (try clear c289)
         obtain ⟨x567_6, rfl, HA, HK6, HO_5, HO_51, HO_73, HO_565, HB⟩ := hrel
         cases gk with
         | zero => exact absurd HA.out (by simp [laws_FnStepsWornOfAll.l1])
         | succ k6 =>
          have H := HA.out
          clear HA
          simp only [laws_FnStepsWornOfAll.l1] at H
          by_cases c291 : x567_6 < (t363.length : Int)
          ·rw [if_pos c291] at H
           have c291b0 : decide (x567_6 < (t363.length : Int)) = true := decide_eq_true c291
           clear c291
           by_cases c292 : 0 ≤ x567_6
           ·rw [if_pos c292] at H
            have c292b0 : decide (0 ≤ x567_6) = true := decide_eq_true c292
            clear c292
            by_cases c293 : x567_6 < (t363.length : Int)
            ·rw [if_pos c293] at H
             have c293b0 : decide (x567_6 < (t363.length : Int)) = true := decide_eq_true c293
             clear c293
             have c294b0 := eq_true (OD : 0 ≤ x567_6)
             by_cases c295 : x567_6 ≤ (wrap64 (x567_6 + a4))
             ·rw [if_pos c295] at H
              have c295b0 := eq_true c295
              have c295b1 : decide (x567_6 ≤ (wrap64 (x567_6 + a4))) = true := decide_eq_true c295
              by_cases c296 : (wrap64 (x567_6 + a4)) ≤ (l3.length : Int)
              ·rw [if_pos c296] at H
               have c296b0 := eq_true c296
               have c296b1 : decide ((wrap64 (x567_6 + a4)) ≤ (l3.length : Int)) = true := decide_eq_true c296
               obtain ⟨y420, hy420⟩ : ∃ y_ : List Int, y_ = ((l3.take ((wrap64 (x567_6 + a4)) : Int).toNat).drop (x567_6 : Int).toNat) := ⟨_, rfl⟩
               replace H : ((laws_wSum.f k6 y420).bind fun t424 => (if (rd t363 x567_6) = t424 then (if (rd t363 x567_6) < t358 then (some false) else (if (rd t363 x567_6) = t358 then (if (wrap64 (x567_6 + 1)) < t357 then (some false) else (laws_FnStepsWornOfAll.l1 k6 l3 a4 l5 a6 l7 l8 a9 a10 a11 t357 t358 t371 t372 t379 t380 t381 t385 t389 t390 t401 t402 t363 (t363.length : Int) (wrap64 (x567_6 + 1)))) else (laws_FnStepsWornOfAll.l1 k6 l3 a4 l5 a6 l7 l8 a9 a10 a11 t357 t358 t371 t372 t379 t380 t381 t385 t389 t390 t401 t402 t363 (t363.length : Int) (wrap64 (x567_6 + 1))))) else (some false))) = some r := by first | (rw [hy420]; with_reducible exact H) | (have H2_ := (Option.bind_some _ _).symm.trans H; rw [hy420]; with_reducible exact H2_) | (have H2_ := (Option.bind_some _ _).symm.trans H; with_reducible exact H2_) | with_reducible exact H | (rw [hy420]; exact H) | exact H
               have Ny420 := Aside0.mk hy420
               clear hy420
               replace H := Option.bind_eq_some_iff.mp H
               obtain ⟨t424, A2970, H⟩ := H
               try dsimp only at H
               have A297 := Aside0.mk A2970
               clear A2970
               by_cases c298 : (rd t363 x567_6) = t424
               ·rw [if_pos c298] at H
                have c298b0 : ((rd t363 x567_6) == t424) = true := beq_iff_eq.mpr c298
                have c298b1 : ((rd t363 x567_6) != t424) = false := bne_eq_false_iff_eq.mpr c298
                clear c298
                by_cases c299 : (rd t363 x567_6) < t358
                ·rw [if_pos c299] at H
                 have c299b0 : decide ((rd t363 x567_6) < t358) = true := decide_eq_true c299
                 clear c299
                 obtain rfl := Option.some.inj H
                 have p419 : 0 ≤ (x567_6 : Int) := OD
                 have q419 : x567_6 < (t363.length : Int) := OD
                 obtain ⟨ad419, e419, hx419_0⟩ := Kd.at_int (Kd.R_reads' HO_565.out).2.2 x567_6 p419 q419
                 cases e419
                 replace p419 := eq_true p419
                 replace q419 := eq_true q419
                 have q300 : ((wrap64 (x567_6 + a4)) : Int) ≤ ((l3.length : Int) : Int) := OD
                 obtain ⟨i0300, hi0300, _, hsz300, _⟩ := info_parts info3
                 have hroom300 : l3.length ≤ c3 := HC3.out
                 have hC300 : Kd.C (Kd.int .i64) _ A3 l3.length l3 := HR3.out
                 have ql300 : (x567_6 : Int) ≤ ((wrap64 (x567_6 + a4)) : Int) := OD
                 have q0300 : (0 : Int) ≤ (x567_6 : Int) := OD
                 have hcut300 := cut_mid (P := Tryz.prog) 22 3 .i64 .i64 Tryz.underlying22 hi0300 1 hsz300 A3 l3.length c3 x567_6 (wrap64 (x567_6 + a4)) q0300 ql300 q300 hroom300
                 have hr300 := Kd.C_mid (lo := (x567_6 : Int).toNat) (hi := ((wrap64 (x567_6 + a4)) : Int).toNat) (c := c3) hC300 (by omega) (by omega) hroom300
                 obtain ⟨A300, hA300⟩ : ∃ A1, A1 = (if c3 = (x567_6 : Int).toNat then A3 else (A3 : Option Addr).map (·.add ((x567_6 : Int).toNat * 1))) := ⟨_, rfl⟩
                 obtain ⟨c300, hc300⟩ : ∃ c1, c1 = c3 - (x567_6 : Int).toNat := ⟨_, rfl⟩
                 have hy300 : y420.length = ((wrap64 (x567_6 + a4)) : Int).toNat - (x567_6 : Int).toNat := (by rw [Ny420.out, List.length_drop, List.length_take] <;> omega)
                 rw [show ((l3).take ((wrap64 (x567_6 + a4)) : Int).toNat).drop (x567_6 : Int).toNat = y420 from Ny420.out.symm] at hr300
                 replace hr300 : Kd.C (Kd.int .i64) _ A300 y420.length y420 := (by rw [hA300]; exact hr300)
                 rw [← hy300, ← hA300, ← hc300] at hcut300
                 have HR423 := Aside0.mk hr300
                 have HC423 := Aside0.mk (show y420.length ≤ c300 from by rw [hy300, hc300]; exact Nat.sub_le_sub_right (Nat.le_trans (by omega) hroom300) _)
                 clear hr300 hC300 hroom300 hi0300 hsz300 hc300
                 have KY300 := Aside0.mk hy300
                 have KA300 := Aside0.mk hA300
                 clear hy300 hA300
                 replace q300 := eq_true q300
                 go_wp2_with (first | ((with_reducible refine gate_callee (f := 31) rfl ?_); refine goesL_ (some 579) rfl rfl Tryz.func31 (by kernel_rfl) rfl #[.slice A300 y420.length c300] rfl Zc ?_; (with_reducible refine (laws_wSum.calls k6 _ _ y420 t424 _ ?side1 ?side2 A297.out).mono ?_); (case side1 => exact CS (Kd.C_below HR423.out HB.out)); (case side2 => exact HC423.out); rintro e w' ⟨rfl, ⟨nd, rfl⟩⟩; refine ⟨_, rfl, ?_⟩))
                 go_ret
                 exact ⟨Zb, BS HB.out⟩
                ·rw [if_neg c299] at H
                 have c299b0 : decide ((rd t363 x567_6) < t358) = false := decide_eq_false c299
                 clear c299
                 by_cases c301 : (rd t363 x567_6) = t358
                 ·rw [if_pos c301] at H
                  have c301b0 : ((rd t363 x567_6) == t358) = true := beq_iff_eq.mpr c301
                  have c301b1 : ((rd t363 x567_6) != t358) = false := bne_eq_false_iff_eq.mpr c301
                  clear c301
                  by_cases c302 : (wrap64 (x567_6 + 1)) < t357
                  ·rw [if_pos c302] at H
                   have c302b0 : decide ((wrap64 (x567_6 + 1)) < t357) = true := decide_eq_true c302
                   clear c302
                   obtain rfl := Option.some.inj H
                   have p419 : 0 ≤ (x567_6 : Int) := OD
                   have q419 : x567_6 < (t363.length : Int) := OD
                   obtain ⟨ad419, e419, hx419_0⟩ := Kd.at_int (Kd.R_reads' HO_565.out).2.2 x567_6 p419 q419
                   cases e419
                   replace p419 := eq_true p419
                   replace q419 := eq_true q419
                   have q303 : ((wrap64 (x567_6 + a4)) : Int) ≤ ((l3.length : Int) : Int) := OD
                   obtain ⟨i0303, hi0303, _, hsz303, _⟩ := info_parts info3
                   have hroom303 : l3.length ≤ c3 := HC3.out
                   have hC303 : Kd.C (Kd.int .i64) _ A3 l3.length l3 := HR3.out
                   have ql303 : (x567_6 : Int) ≤ ((wrap64 (x567_6 + a4)) : Int) := OD
                   have q0303 : (0 : Int) ≤ (x567_6 : Int) := OD
                   have hcut303 := cut_mid (P := Tryz.prog) 22 3 .i64 .i64 Tryz.underlying22 hi0303 1 hsz303 A3 l3.length c3 x567_6 (wrap64 (x567_6 + a4)) q0303 ql303 q303 hroom303
                   have hr303 := Kd.C_mid (lo := (x567_6 : Int).toNat) (hi := ((wrap64 (x567_6 + a4)) : Int).toNat) (c := c3) hC303 (by omega) (by omega) hroom303
                   obtain ⟨A303, hA303⟩ : ∃ A1, A1 = (if c3 = (x567_6 : Int).toNat then A3 else (A3 : Option Addr).map (·.add ((x567_6 : Int).toNat * 1))) := ⟨_, rfl⟩
                   obtain ⟨c303, hc303⟩ : ∃ c1, c1 = c3 - (x567_6 : Int).toNat := ⟨_, rfl⟩
                   have hy303 : y420.length = ((wrap64 (x567_6 + a4)) : Int).toNat - (x567_6 : Int).toNat := (by rw [Ny420.out, List.length_drop, List.length_take] <;> omega)
                   rw [show ((l3).take ((wrap64 (x567_6 + a4)) : Int).toNat).drop (x567_6 : Int).toNat = y420 from Ny420.out.symm] at hr303
                   replace hr303 : Kd.C (Kd.int .i64) _ A303 y420.length y420 := (by rw [hA303]; exact hr303)
                   rw [← hy303, ← hA303, ← hc303] at hcut303
                   have HR423 := Aside0.mk hr303
                   have HC423 := Aside0.mk (show y420.length ≤ c303 from by rw [hy303, hc303]; exact Nat.sub_le_sub_right (Nat.le_trans (by omega) hroom303) _)
                   clear hr303 hC303 hroom303 hi0303 hsz303 hc303
                   have KY303 := Aside0.mk hy303
                   have KA303 := Aside0.mk hA303
                   clear hy303 hA303
                   replace q303 := eq_true q303
                   go_wp2_with (first | ((with_reducible refine gate_callee (f := 31) rfl ?_); refine goesL_ (some 579) rfl rfl Tryz.func31 (by kernel_rfl) rfl #[.slice A303 y420.length c303] rfl Zc ?_; (with_reducible refine (laws_wSum.calls k6 _ _ y420 t424 _ ?side1 ?side2 A297.out).mono ?_); (case side1 => exact CS (Kd.C_below HR423.out HB.out)); (case side2 => exact HC423.out); rintro e w' ⟨rfl, ⟨nd, rfl⟩⟩; refine ⟨_, rfl, ?_⟩))
                   go_ret
                   exact ⟨Zb, BS HB.out⟩
                  ·rw [if_neg c302] at H
                   have c302b0 : decide ((wrap64 (x567_6 + 1)) < t357) = false := decide_eq_false c302
                   clear c302
                   have H' := Aside0.mk H
                   clear H
                   have p419 : 0 ≤ (x567_6 : Int) := OD
                   have q419 : x567_6 < (t363.length : Int) := OD
                   obtain ⟨ad419, e419, hx419_0⟩ := Kd.at_int (Kd.R_reads' HO_565.out).2.2 x567_6 p419 q419
                   cases e419
                   replace p419 := eq_true p419
                   replace q419 := eq_true q419
                   have q304 : ((wrap64 (x567_6 + a4)) : Int) ≤ ((l3.length : Int) : Int) := OD
                   obtain ⟨i0304, hi0304, _, hsz304, _⟩ := info_parts info3
                   have hroom304 : l3.length ≤ c3 := HC3.out
                   have hC304 : Kd.C (Kd.int .i64) _ A3 l3.length l3 := HR3.out
                   have ql304 : (x567_6 : Int) ≤ ((wrap64 (x567_6 + a4)) : Int) := OD
                   have q0304 : (0 : Int) ≤ (x567_6 : Int) := OD
                   have hcut304 := cut_mid (P := Tryz.prog) 22 3 .i64 .i64 Tryz.underlying22 hi0304 1 hsz304 A3 l3.length c3 x567_6 (wrap64 (x567_6 + a4)) q0304 ql304 q304 hroom304
                   have hr304 := Kd.C_mid (lo := (x567_6 : Int).toNat) (hi := ((wrap64 (x567_6 + a4)) : Int).toNat) (c := c3) hC304 (by omega) (by omega) hroom304
                   obtain ⟨A304, hA304⟩ : ∃ A1, A1 = (if c3 = (x567_6 : Int).toNat then A3 else (A3 : Option Addr).map (·.add ((x567_6 : Int).toNat * 1))) := ⟨_, rfl⟩
                   obtain ⟨c304, hc304⟩ : ∃ c1, c1 = c3 - (x567_6 : Int).toNat := ⟨_, rfl⟩
                   have hy304 : y420.length = ((wrap64 (x567_6 + a4)) : Int).toNat - (x567_6 : Int).toNat := (by rw [Ny420.out, List.length_drop, List.length_take] <;> omega)
                   rw [show ((l3).take ((wrap64 (x567_6 + a4)) : Int).toNat).drop (x567_6 : Int).toNat = y420 from Ny420.out.symm] at hr304
                   replace hr304 : Kd.C (Kd.int .i64) _ A304 y420.length y420 := (by rw [hA304]; exact hr304)
                   rw [← hy304, ← hA304, ← hc304] at hcut304
                   have HR423 := Aside0.mk hr304
                   have HC423 := Aside0.mk (show y420.length ≤ c304 from by rw [hy304, hc304]; exact Nat.sub_le_sub_right (Nat.le_trans (by omega) hroom304) _)
                   clear hr304 hC304 hroom304 hi0304 hsz304 hc304
                   have KY304 := Aside0.mk hy304
                   have KA304 := Aside0.mk hA304
                   clear hy304 hA304
                   replace q304 := eq_true q304
                   go_wp2_with (first | ((with_reducible refine gate_callee (f := 31) rfl ?_); refine goesL_ (some 579) rfl rfl Tryz.func31 (by kernel_rfl) rfl #[.slice A304 y420.length c304] rfl Zc ?_; (with_reducible refine (laws_wSum.calls k6 _ _ y420 t424 _ ?side1 ?side2 A297.out).mono ?_); (case side1 => exact CS (Kd.C_below HR423.out HB.out)); (case side2 => exact HC423.out); rintro e w' ⟨rfl, ⟨nd, rfl⟩⟩; refine ⟨_, rfl, ?_⟩))
                   go_roundg k6
                   case measure => have := HJ12.out; have := HJ26.out; have := HJ74.out; have := HJ131.out; have := HJ270.out; have := HK6.out; omega
                   case rel => exact ⟨(wrap64 (x567_6 + 1)), Za, H', ⟨by have := HJ12.out; have := HJ26.out; have := HJ74.out; have := HJ131.out; have := HJ270.out; have := HK6.out; omega⟩, ⟨VS HO_5.out⟩, ⟨RS HO_51.out⟩, ⟨RS HO_73.out⟩, ⟨RS HO_565.out⟩, ⟨BS HB.out⟩⟩
                 ·rw [if_neg c301] at H
                  have c301b0 : ((rd t363 x567_6) == t358) = false := beq_eq_false_iff_ne.mpr c301
                  have c301b1 : ((rd t363 x567_6) != t358) = true := bne_iff_ne.mpr c301
                  have H' := Aside0.mk H
                  clear H
                  have p419 : 0 ≤ (x567_6 : Int) := OD
                  have q419 : x567_6 < (t363.length : Int) := OD
                  obtain ⟨ad419, e419, hx419_0⟩ := Kd.at_int (Kd.R_reads' HO_565.out).2.2 x567_6 p419 q419
                  cases e419
                  replace p419 := eq_true p419
                  replace q419 := eq_true q419
                  have q305 : ((wrap64 (x567_6 + a4)) : Int) ≤ ((l3.length : Int) : Int) := OD
                  obtain ⟨i0305, hi0305, _, hsz305, _⟩ := info_parts info3
                  have hroom305 : l3.length ≤ c3 := HC3.out
                  have hC305 : Kd.C (Kd.int .i64) _ A3 l3.length l3 := HR3.out
                  have ql305 : (x567_6 : Int) ≤ ((wrap64 (x567_6 + a4)) : Int) := OD
                  have q0305 : (0 : Int) ≤ (x567_6 : Int) := OD
                  have hcut305 := cut_mid (P := Tryz.prog) 22 3 .i64 .i64 Tryz.underlying22 hi0305 1 hsz305 A3 l3.length c3 x567_6 (wrap64 (x567_6 + a4)) q0305 ql305 q305 hroom305
                  have hr305 := Kd.C_mid (lo := (x567_6 : Int).toNat) (hi := ((wrap64 (x567_6 + a4)) : Int).toNat) (c := c3) hC305 (by omega) (by omega) hroom305
                  obtain ⟨A305, hA305⟩ : ∃ A1, A1 = (if c3 = (x567_6 : Int).toNat then A3 else (A3 : Option Addr).map (·.add ((x567_6 : Int).toNat * 1))) := ⟨_, rfl⟩
                  obtain ⟨c305, hc305⟩ : ∃ c1, c1 = c3 - (x567_6 : Int).toNat := ⟨_, rfl⟩
                  have hy305 : y420.length = ((wrap64 (x567_6 + a4)) : Int).toNat - (x567_6 : Int).toNat := (by rw [Ny420.out, List.length_drop, List.length_take] <;> omega)
                  rw [show ((l3).take ((wrap64 (x567_6 + a4)) : Int).toNat).drop (x567_6 : Int).toNat = y420 from Ny420.out.symm] at hr305
                  replace hr305 : Kd.C (Kd.int .i64) _ A305 y420.length y420 := (by rw [hA305]; exact hr305)
                  rw [← hy305, ← hA305, ← hc305] at hcut305
                  have HR423 := Aside0.mk hr305
                  have HC423 := Aside0.mk (show y420.length ≤ c305 from by rw [hy305, hc305]; exact Nat.sub_le_sub_right (Nat.le_trans (by omega) hroom305) _)
                  clear hr305 hC305 hroom305 hi0305 hsz305 hc305
                  have KY305 := Aside0.mk hy305
                  have KA305 := Aside0.mk hA305
                  clear hy305 hA305
                  replace q305 := eq_true q305
                  go_wp2_with (first | ((with_reducible refine gate_callee (f := 31) rfl ?_); refine goesL_ (some 579) rfl rfl Tryz.func31 (by kernel_rfl) rfl #[.slice A305 y420.length c305] rfl Zc ?_; (with_reducible refine (laws_wSum.calls k6 _ _ y420 t424 _ ?side1 ?side2 A297.out).mono ?_); (case side1 => exact CS (Kd.C_below HR423.out HB.out)); (case side2 => exact HC423.out); rintro e w' ⟨rfl, ⟨nd, rfl⟩⟩; refine ⟨_, rfl, ?_⟩))
                  go_roundg k6
                  case measure => have := HJ12.out; have := HJ26.out; have := HJ74.out; have := HJ131.out; have := HJ270.out; have := HK6.out; omega
                  case rel => exact ⟨(wrap64 (x567_6 + 1)), Za, H', ⟨by have := HJ12.out; have := HJ26.out; have := HJ74.out; have := HJ131.out; have := HJ270.out; have := HK6.out; omega⟩, ⟨VS HO_5.out⟩, ⟨RS HO_51.out⟩, ⟨RS HO_73.out⟩, ⟨RS HO_565.out⟩, ⟨BS HB.out⟩⟩
               ·rw [if_neg c298] at H
                have c298b0 : ((rd t363 x567_6) == t424) = false := beq_eq_false_iff_ne.mpr c298
                have c298b1 : ((rd t363 x567_6) != t424) = true := bne_iff_ne.mpr c298
                obtain rfl := Option.some.inj H
                have p419 : 0 ≤ (x567_6 : Int) := OD
                have q419 : x567_6 < (t363.length : Int) := OD
                obtain ⟨ad419, e419, hx419_0⟩ := Kd.at_int (Kd.R_reads' HO_565.out).2.2 x567_6 p419 q419
                cases e419
                replace p419 := eq_true p419
                replace q419 := eq_true q419
                have q306 : ((wrap64 (x567_6 + a4)) : Int) ≤ ((l3.length : Int) : Int) := OD
                obtain ⟨i0306, hi0306, _, hsz306, _⟩ := info_parts info3
                have hroom306 : l3.length ≤ c3 := HC3.out
                have hC306 : Kd.C (Kd.int .i64) _ A3 l3.length l3 := HR3.out
                have ql306 : (x567_6 : Int) ≤ ((wrap64 (x567_6 + a4)) : Int) := OD
                have q0306 : (0 : Int) ≤ (x567_6 : Int) := OD
                have hcut306 := cut_mid (P := Tryz.prog) 22 3 .i64 .i64 Tryz.underlying22 hi0306 1 hsz306 A3 l3.length c3 x567_6 (wrap64 (x567_6 + a4)) q0306 ql306 q306 hroom306
                have hr306 := Kd.C_mid (lo := (x567_6 : Int).toNat) (hi := ((wrap64 (x567_6 + a4)) : Int).toNat) (c := c3) hC306 (by omega) (by omega) hroom306
                obtain ⟨A306, hA306⟩ : ∃ A1, A1 = (if c3 = (x567_6 : Int).toNat then A3 else (A3 : Option Addr).map (·.add ((x567_6 : Int).toNat * 1))) := ⟨_, rfl⟩
                obtain ⟨c306, hc306⟩ : ∃ c1, c1 = c3 - (x567_6 : Int).toNat := ⟨_, rfl⟩
                have hy306 : y420.length = ((wrap64 (x567_6 + a4)) : Int).toNat - (x567_6 : Int).toNat := (by rw [Ny420.out, List.length_drop, List.length_take] <;> omega)
                rw [show ((l3).take ((wrap64 (x567_6 + a4)) : Int).toNat).drop (x567_6 : Int).toNat = y420 from Ny420.out.symm] at hr306
                replace hr306 : Kd.C (Kd.int .i64) _ A306 y420.length y420 := (by rw [hA306]; exact hr306)
                rw [← hy306, ← hA306, ← hc306] at hcut306
                have HR423 := Aside0.mk hr306
                have HC423 := Aside0.mk (show y420.length ≤ c306 from by rw [hy306, hc306]; exact Nat.sub_le_sub_right (Nat.le_trans (by omega) hroom306) _)
                clear hr306 hC306 hroom306 hi0306 hsz306 hc306
                have KY306 := Aside0.mk hy306
                have KA306 := Aside0.mk hA306
                clear hy306 hA306
                replace q306 := eq_true q306
                go_wp2_with (first | ((with_reducible refine gate_callee (f := 31) rfl ?_); refine goesL_ (some 579) rfl rfl Tryz.func31 (by kernel_rfl) rfl #[.slice A306 y420.length c306] rfl Zc ?_; (with_reducible refine (laws_wSum.calls k6 _ _ y420 t424 _ ?side1 ?side2 A297.out).mono ?_); (case side1 => exact CS (Kd.C_below HR423.out HB.out)); (case side2 => exact HC423.out); rintro e w' ⟨rfl, ⟨nd, rfl⟩⟩; refine ⟨_, rfl, ?_⟩))
                go_ret
                exact ⟨Zb, BS HB.out⟩
              ·rw [if_neg c296] at H
               exact absurd H (by simp)
             ·rw [if_neg c295] at H
              exact absurd H (by simp)
            ·rw [if_neg c293] at H
             exact absurd H (by simp)
           ·rw [if_neg c292] at H
            exact absurd H (by simp)
          ·rw [if_neg c291] at H
           have c291b0 : decide (x567_6 < (t363.length : Int)) = false := decide_eq_false c291
           clear c291
           have H' := Aside0.mk H
           clear H
           go_wp2
           go_meet
           case rel => exact ⟨_, H', ⟨by have := HJ12.out; have := HJ26.out; have := HJ74.out; have := HJ131.out; have := HJ270.out; have := HK6.out; first | omega | exact Nat.le_refl _⟩, ⟨VS (Kd.V_mono HO_5.out (fun _ hk => ⟨hk.1, ⟨hk.2.1, hk.2.2.1⟩⟩))⟩, ⟨RS (Kd.R_mono HO_51.out (fun _ hk => ⟨hk.1, hk.2.1⟩))⟩, ⟨RS (Kd.R_mono HO_73.out (fun _ hk => ⟨hk.1, hk.2.1⟩))⟩, ⟨BS HB.out⟩⟩
    ·replace c268 := Bool.eq_false_iff.mpr c268
     subst c268
     have H1 : (laws_FnStepsWornOfAll.j8 kj131 l3 l5 a6 l7 l8 a9 a10 a11 t371 t372 t379 t380 t381 t385 t389 t390 t401 t402) = some r := by rw [if_neg (show ¬ (false = true) by decide)] at H; exact H
     clear H
     have H := H1
     clear H1
     have H' := Aside0.mk H
     clear H
     go_wp2
     go_meet
     case rel => exact ⟨_, H', ⟨by have := HJ12.out; have := HJ26.out; have := HJ74.out; have := HJ131.out; first | omega | exact Nat.le_refl _⟩, ⟨VS (Kd.V_mono HO_5.out (fun _ hk => ⟨hk.1, ⟨hk.2.2.1, hk.2.2.2.2⟩⟩))⟩, ⟨RS (Kd.R_mono HO_51.out (fun _ hk => ⟨hk.1, hk.2.2.2⟩))⟩, ⟨RS (Kd.R_mono HO_73.out (fun _ hk => ⟨hk.1, hk.2.2.1⟩))⟩, ⟨BS HB.out⟩⟩
   case rest =>
    go_step
    exact laws_FnStepsWornOfAll.stage5 _ _ _ _ _ _ _ _ _ _ _ _ _ _ _ _ _ _ _ _ _ _ _ _ _ _ _ _ _ _ _ _ _ _ _ _ _ _ _ _ _ _ _ _ _ _ _ _ _ _ _ _ _ _ _ _ _ _ _ _ _ _ _ _ _ _ _ _ _ _ _ _ _ _ _ _ _ _ _ _ _ _ _ _ _ _ _ _ _ _ _ _ _ _ _ _ _ _ _ _ _ _ _ _ _ _ _ _ _ _ _ _ _ _ _ _ _ _ _ _ _ _ _ _ _ _ _ _ _ _ _ _ _ _ _ _ _ _ _ _ _ _ _ _ _ _ _ _ _ _ _ _ _ _ _ _ _ _ _ _ _ _ _ _ _ _ _ _ _ _ _ _ _ _ _ _ _ _ _ _ _ _ _ _ _ _ _ _ _ _ _ _ _ _ _ _ _ _ _ _ _ _ _ _ _ _ _ _ _ _ _ _ _ _ _ _ _ _ _ _ _ _ _ _ _ _ _ _ _ _ _ _ _ _ _ _ _ _ _ _ _ _ _ _ _ _ _ _ _ _ _ _ _ _ _ _ _ _ _ _ _ _ _ _ _ _ _ _ _ _ _ _ _ _ _ _ _ _ _ _ _ _ _ _ _ _ _ _ _ _ _ _ _ _ _ _ _ _ _ _ _ _ _ _ _ _ _ _ _ _ _ _ _ _ _ _ _ _ _ _ _ _ _ _ _ _ _ _ _ _ _ _ _ _ _ _ _ _ _ _ _ _ _ _ _ _ _ _ _ _ _ _ _ _ _ _ _ _ _ _ _ _ _ _ _ _ _ _ _ _ _ _ _ _ _ _ _ _ _ _ _ _ _ _ _ _ _ _ _ _ _ _ _ _ _ _ _ _ _ _ _ _ _ _ _ _ _ _ _ _ _ _ _ _ _ _ _ _ _ _ _ _ _ _ _ _ _ _ _ _ _ _ _ _ _ _ _ _ _ _ _ _ _ _ _ _ _ _ _ _ _ _ _ _ _ _ _ _ _ _ _ _ _ _ _ _ _ _ _ _ _ _ _ _ _ _ _ _ _ _ _ _ _ _ _ _ _ _ _ _ _ _ _ _ _ _ _ _ _ _ _ _ _ _ _ _ _ _ _ _ _ _ _ _ _ _ _ _ _ _ _ _ _ _ _ _ _ _ _ _ _ _ _ _ _ _ _ _ _ _ _ _ _ _ _ _ _ _ _ _ _ _ _ _ _ _ _ _ _ _ _ _ _ _ _ _ _ _ _ _ _ _ _ _ _ _ _ _ _ _ _ _ _ _ _ _ _ _ _ _ _ _ _ _ _ _ _ _ htb HR3 HC3 HR7 HR8 HC8 HJ12 HJ26 HJ74 HJ131 HC267 hcut
end Go.Proofs.YtmonnbbihmpedaaGreatDoor.PFnStepsWornOfAll
