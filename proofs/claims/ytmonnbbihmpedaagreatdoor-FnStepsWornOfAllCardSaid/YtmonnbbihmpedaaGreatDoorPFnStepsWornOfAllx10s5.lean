-- Written by wip/gen/mp.py of this repo (the kit's printer with our own parts): functions and their contracts.
import Derived.Test.YtmonnbbihmpedaaGreatDoorPFnStepsWornOfAllx10s6
namespace Go.Proofs.YtmonnbbihmpedaaGreatDoor.PFnStepsWornOfAll
open Go.RowKit Go.Proofs.YtmonnbbihmpedaaGreatDoorW.PrintWords Go.Proofs.YtmonnbbihmpedaaGreatDoorW.PrintLast Go.Proofs.YtmonnbbihmpedaaGreatDoorW.PrintMore
attribute [local go_sem] yielded_undef max2_int min2_int max_two min_two max_three min_three max_four min_four   -- for this text's walks alone
set_option linter.unusedVariables false
set_option linter.unusedSimpArgs false

/-! ### laws_FnStepsWornOfAll: function 3 -/
set_option maxHeartbeats 8000000 in
set_option maxRecDepth 100000 in
theorem laws_FnStepsWornOfAll.stage5 (k c0 c2 c3 c5 c7 c8 kj12 kj26 kj74 kj131 : Nat) (A0 A2 A3 A5 A7 A8 : Option Addr) (l0 l2 l3 l5 l8 t363 t371 t393 t401 : List Int) (a1 a4 a6 a9 a10 t336 t338 t357 t358 t360 t361 t379 t380 t382 t383 t385 t387 : Int) (P5_ : Nat → Prop) (l7 : List (List Int)) (a11 t389 t391 : ByteArray) (r t327 t329 t332 t333 t334 t335 t337 t339 t359 t362 t364 t368 t372 t376 t381 t384 t386 t388 t390 t392 t394 t398 t402 t406 : Bool) (w wc : World) (ba bb bc bd be bf bg bh bi bj bk bl bm bn bo bp bq br bs bt bu bv bw bx bz b0 b1 b2 b3 b4 b5 b6 v325 v330 b7 b8 b9 bA bB bC bD bE bF bG bH bI bJ bK bL bM bN bO bP bQ bR bS bT bU bV bW bX bY bZ da db dc dd de df dg dh di dj dk dl dm dn dp dq dr ds dt du dv dw dx dy dz d0 d1 d2 d3 d4 d5 d6 d7 d8 d9 dA dB dC dD dE dF dG dH dI dJ dK dL dM dN dO dP dQ dR dS dT dU dV dW dX dY dZ ea eb ec ed ee ef eg eh ei ej ek el em en eo ep eq er es et eu ev ew ex ey ez e0 e1 e2 e3 e4 e5 e6 e7 e8 e9 eA eB eC eD eE eF v365 v369 v373 v377 v395 v399 v403 v407 eG eH eI eJ eK eL eM eN eO eP eQ eR eS eT eU eV eW eX eY eZ fa fb fc fd fe ff fg fh fi fj fk fl fm fn fo fp fq fr fs ft fu fv fw fx fy fz f0 f1 f2 f3 f4 f5 f6 f7 f8 f9 fA fB fC fD fE fF fG fH fI fJ fK fL fM fN fO fP fQ fR fS fT fU fV fW fX fY fZ ga gb gc gd ge gf gg gh gi gj gl gm gn go gp gq gr gs gt gu gv gw gx gy gz g0 g1 g2 g3 g4 g5 g6 g7 g8 g9 gA gB gC gD gE gF gG gH gI gJ gK gL gM gN gO gP gQ gR gS gT gU gV gW gX gY gZ ma mb mc md me mf mg mh mi mj ml mm mn mo mq mr ms mt mu mv mw mx my mz m0 m1 m2 m3 m4 m5 m6 m7 m8 m9 mA mB mC mD mE mF mG mH mI mJ mK mL mM mN mO mP mQ mR mS mT mU mV mW mX mY mZ na nb nc ne nf ng nh ni nj nk nl nm nn no np nq nr ns nt nu nv nw nx ny nz n0 n1 n2 n3 n4 n5 n6 n7 n8 n9 nA nB nC nD nE nF nG nH nI nJ nK nL nM nN nO nP nQ nR nS nT nU nV nW nX nY nZ oa ob oc od oe of og oh oi oj ok ol om on oo op oq os ot ou ov ow ox oy oz o0 o1 o2 o3 o4 o5 o6 o7 o8 o9 oA oB oC oD oE oF oG oH oI oJ oK oL oM oN oO oP oQ oR oS oT oU oV oW oX oY oZ pa pb pc pd pe pf pg ph pi pj pk pl pm pn po pp pq pr ps pt pu pv pw px : Value) (htb : TBB w) (HR3 : Aside0 ((Kd.int IntKind.i64).C w A3 l3.length l3)) (HC3 : Aside0 (l3.length ≤ c3)) (HR7 : Aside0 ((Kd.slice 3 (Kd.int IntKind.i64)).C w A7 l7.length l7)) (HR8 : Aside0 ((Kd.int IntKind.i64).C w A8 l8.length l8)) (HC8 : Aside0 (l8.length ≤ c8)) (HJ12 : Aside0 (kj12 + 1 ≤ k)) (HJ26 : Aside0 (kj26 + 1 ≤ kj12)) (HJ74 : Aside0 (kj74 + 1 ≤ kj26)) (HJ131 : Aside0 (kj131 + 1 ≤ kj74)) (HC267 : Aside0 ((if t359 = true then (impl_MostWears.f kj131 l3 a4).bind fun (bt414 : Int × Bool) => (impl_MostWears.f kj131 t393 a4).bind fun (bt416 : Int × Bool) => if bt414.snd = true then if bt414.fst = t358 then if bt416.snd = true then if bt416.fst = bt414.fst then if (↑t363.length : Int) = wrap64 (wrap64 ((↑l3.length : Int) - a4) + 1) then if t357 < 1 then j6 kj131 l3 a4 l5 a6 l7 l8 a9 a10 a11 t357 t358 t363 t371 t372 t379 t380 t381 t385 t389 t390 t401 t402 true else if t357 > (↑t363.length : Int) then j6 kj131 l3 a4 l5 a6 l7 l8 a9 a10 a11 t357 t358 t363 t371 t372 t379 t380 t381 t385 t389 t390 t401 t402 true else if 0 ≤ wrap64 (t357 - 1) then if wrap64 (t357 - 1) < (↑t363.length : Int) then j6 kj131 l3 a4 l5 a6 l7 l8 a9 a10 a11 t357 t358 t363 t371 t372 t379 t380 t381 t385 t389 t390 t401 t402 (rd t363 (wrap64 (t357 - 1)) != t358) else none else none else j6 kj131 l3 a4 l5 a6 l7 l8 a9 a10 a11 t357 t358 t363 t371 t372 t379 t380 t381 t385 t389 t390 t401 t402 true else j6 kj131 l3 a4 l5 a6 l7 l8 a9 a10 a11 t357 t358 t363 t371 t372 t379 t380 t381 t385 t389 t390 t401 t402 true else j6 kj131 l3 a4 l5 a6 l7 l8 a9 a10 a11 t357 t358 t363 t371 t372 t379 t380 t381 t385 t389 t390 t401 t402 true else j6 kj131 l3 a4 l5 a6 l7 l8 a9 a10 a11 t357 t358 t363 t371 t372 t379 t380 t381 t385 t389 t390 t401 t402 true else j6 kj131 l3 a4 l5 a6 l7 l8 a9 a10 a11 t357 t358 t363 t371 t372 t379 t380 t381 t385 t389 t390 t401 t402 true else j8 kj131 l3 l5 a6 l7 l8 a9 a10 a11 t371 t372 t379 t380 t381 t385 t389 t390 t401 t402) = some r)) (hcut : ∃ (kq : Nat), Aside0 (j8 kq l3 l5 a6 l7 l8 a9 a10 a11 t371 t372 t379 t380 t381 t385 t389 t390 t401 t402 = some r) ∧ Aside0 (kq ≤ kj131) ∧ Aside0 ((Kd.int IntKind.i64).V 3 wc w.heap.size (fun (k_ : Nat) => (P5_ k_ ∨ w.heap.size ≤ k_) ∧ some k_ ≠ v373.ownBlock ∧ some k_ ≠ v403.ownBlock) (Value.slice A5 l5.length c5) l5) ∧ Aside0 ((Kd.int IntKind.i64).R 3 wc w.heap.size (fun (k_ : Nat) => w.heap.size ≤ k_ ∧ some k_ ≠ v403.ownBlock) v373 t371) ∧ Aside0 ((Kd.int IntKind.i64).R 3 wc w.heap.size (fun (k_ : Nat) => w.heap.size ≤ k_ ∧ some k_ ≠ v373.ownBlock) v403 t401) ∧ Aside0 (Below w.heap.size w wc)) : Code.wp Tryz.prog (second_ (second_ (second_ (second_ (second_ (second_ (second_ (second_ (second_ (second_ (second_ (second_ (second_ (second_ (second_ (second_ (second_ (second_ (second_ (second_ (second_ (second_ (second_ (second_ (second_ (second_ (second_ (second_ (body_ Tryz.f3))))))))))))))))))))))))))))) (bodyPost Tryz.prog Tryz.f3 (fun e w' => e = .returned (.bool r) ∧ Below w.heap.size w w')) { tmps := #[.slice A0 l0.length c0, .int .i64 a1, .slice A2 l2.length c2, .slice A3 l3.length c3, .int .i64 a4, .slice A5 l5.length c5, .int .i64 a6, .slice A7 l7.length c7, .slice A8 l8.length c8, .int .i64 a9, .int .i64 a10, .string a11, undef, undef, undef, undef, undef, undef, undef, undef, undef, undef, undef, undef, g5, v325, .bool t327, v330, .bool t329, .bool t332, .bool t333, .bool t334, .bool t335, .int .i64 t336, .bool t337, .int .i64 t338, .bool t339, d8, d9, dA, dB, .int .i64 t357, .int .i64 t358, .bool t359, .int .i64 t360, .int .i64 t361, .bool t362, v365, .bool t364, v369, .bool t368, v373, .bool t372, v377, .bool t376, .int .i64 t379, .int .i64 t380, .bool t381, .int .i64 t382, .int .i64 t383, .bool t384, .int .i64 t385, .bool t386, .int .i64 t387, .bool t388, .string t389, .bool t390, .string t391, .bool t392, v395, .bool t394, v399, .bool t398, v403, .bool t402, v407, .bool t406, g6, g7, g8, g9, gA, gB, undef, undef, undef, undef, undef, undef, undef, undef, undef, undef, undef, undef, undef, ba, bb, bc, bd, be, bf, bg, bh, bi, bj, bk, bl, bm, bn, bo, bp, bq, br, bs, bt, bu, bv, bw, bx, bz, b0, b1, b2, b3, b4, b5, b6, ni, nj, nk, nl, nm, nn, no, np, nq, nr, ns, nt, nu, nv, nw, nx, ny, nz, n0, n1, n2, n3, n4, n5, n6, n7, n8, n9, nA, nB, nC, nD, nE, nF, nG, nH, nI, nJ, nK, nL, nM, b7, b8, b9, bA, bB, bC, bD, bE, bF, bG, bH, bI, bJ, bK, bL, bM, bN, bO, bP, bQ, bR, bS, bT, bU, bV, bW, bX, bY, bZ, da, db, dc, dd, de, df, dg, dh, di, dj, dk, dl, dm, dn, dp, dq, dr, ds, dt, du, dv, dw, dx, dy, dz, d0, d1, d2, d3, d4, d5, d6, d7, nN, dC, dD, dE, dF, dG, dH, dI, dJ, dK, dL, dM, dN, dO, dP, dQ, dR, dS, dT, dU, dV, dW, dX, dY, dZ, ea, eb, ec, ed, ee, ef, eg, eh, ei, ej, ek, el, em, en, eo, ep, eq, er, es, et, eu, ev, ew, ex, ey, ez, e0, e1, e2, e3, e4, e5, e6, e7, e8, e9, eA, eB, eC, eD, eE, eF, nO, nP, nQ, nR, nS, nT, nU, nV, nW, nX, nY, nZ, oa, ob, oc, od, oe, of, og, oh, oi, oj, ok, ol, om, on, oo, op, oq, os, ot, ou, ov, ow, ox, oy, oz, o0, o1, o2, o3, o4, o5, o6, o7, o8, o9, oA, oB, oC, oD, oE, oF, oG, oH, oI, oJ, oK, oL, oM, oN, oO, oP, oQ, oR, oS, oT, oU, oV, oW, oX, oY, oZ, pa, pb, pc, pd, pe, pf, pg, ph, pi, pj, pk, pl, pm, pn, po, pp, pq, pr, ps, pt, pu, pv, pw, eG, eH, eI, eJ, eK, eL, eM, eN, eO, eP, eQ, eR, eS, eT, eU, eV, eW, eX, eY, eZ, fa, fb, fc, fd, fe, ff, fg, fh, fi, fj, fk, fl, fm, fn, fo, fp, fq, fr, fs, ft, fu, fv, fw, fx, fy, fz, f0, f1, f2, f3, f4, f5, f6, f7, f8, f9, fA, fB, fC, fD, fE, fF, fG, fH, fI, fJ, fK, fL, fM, fN, fO, fP, fQ, fR, fS, fT, fU, fV, fW, fX, fY, fZ, ga, gb, gc, gd, ge, gf, gg, gh, gi, gj, gl, gm, gn, go, gp, gq, gr, gs, gt, gu, gv, gw, gx, gy, gz, g0, g1, g2, g3, g4, px, gC, gD, gE, gF, gG, gH, gI, gJ, gK, gL, gM, gN, gO, gP, gQ, gR, gS, gT, gU, gV, gW, gX, gY, gZ, ma, mb, mc, md, me, mf, mg, mh, mi, mj, ml, mm, mn, mo, mq, mr, ms, mt, mu, mv, mw, mx, my, mz, m0, m1, m2, m3, m4, m5, m6, m7, m8, m9, mA, mB, mC, mD, mE, mF, mG, mH, mI, mJ, mK, mL, mM, mN, mO, mP, mQ, mR, mS, mT, mU, mV, mW, mX, mY, mZ, na, nb, nc, ne, nf, ng, nh, undef, undef, undef, undef, undef, undef, undef, undef, undef, undef, undef, undef, undef, undef, undef, undef, undef, undef, undef, undef, undef, undef, undef, undef, undef, undef, undef, undef, undef, undef, undef, undef, undef, undef, undef, undef, undef, undef, undef, undef, undef, undef, undef, undef, undef, undef, undef, undef, undef, undef, undef, undef, undef, undef, undef, undef, undef, undef, undef, undef, undef, undef, undef, undef, undef, undef, undef, undef, undef, undef, undef, undef, undef, undef, undef, undef, undef, undef, undef, undef, undef, undef, undef, undef, undef, undef, undef, undef, undef, undef, undef, undef, undef, undef, undef, undef, undef, undef, undef, undef, undef, undef, undef, undef, undef, undef, undef, undef, undef, undef], defers := [] } wc := by
 dsimp only [second_, body_, Tryz.f3]
 clear HC267
 (try clear c1); (try clear p4); (try clear q4); (try clear hx4); (try clear q30); (try clear c31); (try clear p41); (try clear q41); (try clear hx41); (try clear c266); (try clear c268); (try clear c275); (try clear c276); (try clear c276b0); (try clear c276b1); (try clear c277); (try clear c278); (try clear c278b0); (try clear c278b1); (try clear c279); (try clear c279b0); (try clear c279b1); (try clear c280); (try clear c280b0); (try clear c282); (try clear c282b0); (try clear c285); (try clear c285b0); (try clear c286); (try clear c286b0); (try clear c289); (try clear c291); (try clear c291b0); (try clear c292); (try clear c292b0); (try clear c293); (try clear c293b0); (try clear c294); (try clear c294b0); (try clear c295); (try clear c295b0); (try clear c295b1); (try clear c296); (try clear c296b0); (try clear c296b1); (try clear c298); (try clear c298b0); (try clear c298b1); (try clear c299); (try clear c299b0); (try clear c300); (try clear q300); (try clear c301); (try clear c301b0); (try clear c301b1); (try clear c302); (try clear c302b0); (try clear c303); (try clear q303); (try clear c304); (try clear q304); (try clear c305); (try clear q305); (try clear c306); (try clear q306); (try clear hx418_0); (try clear hx419_0); (try clear p418); (try clear p419); (try clear q0300); (try clear q0303); (try clear q0304); (try clear q0305); (try clear q0306); (try clear q418); (try clear q419)
 obtain ⟨kq, HA, HJ266, HO_5, HO_51, HO_73, HB⟩ := hcut
 cases kq with
 | zero => exact absurd HA.out (by simp [laws_FnStepsWornOfAll.j8])
 | succ kj266 =>
  have H := HA.out
  clear HA
  simp only [laws_FnStepsWornOfAll.j8] at H
  have HC307 := Aside0.mk H
  clear H
  go_upto_if 598 with (fail)
  go_cut [] from 598 to 598 (fun wc => ∃ (kq : Nat), Aside0 (laws_FnStepsWornOfAll.j10 kq l3 l8 a9 a10 a11 t379 t380 t381 t385 t389 t390 t401 t402 = some r) ∧ Aside0 (kq ≤ kj266) ∧ Aside0 (Kd.R (Kd.int .i64) 3 wc w.heap.size (fun k_ => (w.heap.size ≤ k_)) v403 t401) ∧ Aside0 (Below w.heap.size w wc))
  case first =>
   have H := HC307.out
   clear HC307
   by_cases c308 : t372 = true
   ·subst c308
    have H1 : (laws_FnStepsWornOfAll.l2 kj266 l3 a6 l8 a9 a10 a11 t371 t379 t380 t381 t385 t389 t390 t401 t402 l5 l7 (l7.length : Int) 0) = some r := by rw [if_pos rfl] at H; exact H
    clear H
    have H := H1
    clear H1
    have H' := Aside0.mk H
    clear H
    go_wp2
    go_loopg [83, 602] kj266 (fun kq v83 v602 w' => ∃ (x83_6 : List Int) (x602_6 : Int), v602 = .int .i64 x602_6 ∧ Aside0 (laws_FnStepsWornOfAll.l2 kq l3 a6 l8 a9 a10 a11 t371 t379 t380 t381 t385 t389 t390 t401 t402 x83_6 l7 (l7.length : Int) x602_6 = some r) ∧ Aside0 (kq ≤ kj266) ∧ Aside0 (Kd.R (Kd.int .i64) 3 w' w.heap.size (fun k_ => (w.heap.size ≤ k_) ∧ some k_ ≠ (v403 : Value).ownBlock) v373 t371) ∧ Aside0 (Kd.R (Kd.int .i64) 3 w' w.heap.size (fun k_ => (w.heap.size ≤ k_) ∧ some k_ ≠ (v373 : Value).ownBlock) v403 t401) ∧ Aside0 (Kd.V (Kd.int .i64) 3 w' w.heap.size (fun k_ => (P5_ k_ ∨ w.heap.size ≤ k_) ∧ some k_ ≠ (v373 : Value).ownBlock ∧ some k_ ≠ (v403 : Value).ownBlock) v83 x83_6) ∧ Aside0 (Below w.heap.size w w'))
    case atStart => exact ⟨(l5), (0), Za, H', ⟨Nat.le_refl _⟩, ⟨RS HO_51.out⟩, ⟨RS HO_73.out⟩, ⟨VS HO_5.out⟩, ⟨BS HB.out⟩⟩
    case round =>
     clear H'
     (try clear c308)
     obtain ⟨x83_6, x602_6, rfl, HA, HK6, HO_51, HO_73, HO_83, HB⟩ := hrel
     cases gk with
     | zero => exact absurd HA.out (by simp [laws_FnStepsWornOfAll.l2])
     | succ k6 =>
      have H := HA.out
      clear HA
      simp only [laws_FnStepsWornOfAll.l2] at H
      by_cases c309 : x602_6 < (l7.length : Int)
      ·rw [if_pos c309] at H
       have c309b0 : decide (x602_6 < (l7.length : Int)) = true := decide_eq_true c309
       clear c309
       (first | rw [c309b0] | (simp only [i64_w, i32_w]; rw [c309b0]) | skip)
       by_cases c310 : 0 ≤ x602_6
       ·rw [if_pos c310] at H
        have c310b0 : decide (0 ≤ x602_6) = true := decide_eq_true c310
        clear c310
        by_cases c311 : x602_6 < (l7.length : Int)
        ·rw [if_pos c311] at H
         have c311b0 : decide (x602_6 < (l7.length : Int)) = true := decide_eq_true c311
         clear c311
         replace H := Option.bind_eq_some_iff.mp H
         obtain ⟨⟨t426, t429⟩, A3120, H⟩ := H
         try dsimp only at H
         have A312 := Aside0.mk A3120
         clear A3120
         by_cases c313 : t429 = true
         ·subst c313
          have H1 : (laws_FnStepsWornOfAll.l2 k6 l3 a6 l8 a9 a10 a11 t371 t379 t380 t381 t385 t389 t390 t401 t402 t426 l7 (l7.length : Int) (wrap64 (x602_6 + 1))) = some r := by rw [if_pos rfl] at H; exact H
          clear H
          have H := H1
          clear H1
          have H' := Aside0.mk H
          clear H
          have p425 : 0 ≤ (x602_6 : Int) := OD
          have q425 : x602_6 < (l7.length : Int) := OD
          obtain ⟨ad425, A425_0, c425_0, e425, hx425_0, hl425_0, hi425_0⟩ := at_L1 HR7.out x602_6 p425 q425
          cases e425
          replace hx425_0 := (HB.out.cell (World.block_lt_of_cell? w _ hx425_0)).trans hx425_0
          have HR425_0 := Aside0.mk hi425_0
          have HC425_0 := Aside0.mk hl425_0
          clear hi425_0 hl425_0
          replace p425 := eq_true p425
          replace q425 := eq_true q425
          obtain ⟨Ao314, co314, eo314⟩ := Kd.V_slice HO_83.out
          subst eo314
          go_wp2_with (first | ((with_reducible refine gate_callee (f := 4) rfl ?_); refine goesL_ (some 610) rfl rfl Tryz.func4 (by kernel_rfl) rfl #[.slice Ao314 x83_6.length co314, .int .i64 a6, .slice A425_0 (rd_L1 l7 x602_6).length c425_0] rfl Zc ?_; (with_reducible refine (impl_WearBy.calls k6 _ _ x83_6 a6 (fun k_ => k_ < w.heap.size) _ _ (rd_L1 l7 x602_6) t426 true _ ?side1 ?side2 ?side3 A312.out).mono ?_); (case side1 => exact CS (Kd.V_reads' HO_83.out).2.2); (case side2 => exact (Kd.V_reads' HO_83.out).2.1); (case side3 => exact Kd.V_mk HC425_0.out (Kd.F_below (Kd.C_F (Kd.heap_int .i64) HR425_0.out) (BS HB.out))); rintro e w315 ⟨v427, rfl, ho0, hb⟩; refine ⟨_, rfl, ?_⟩; have n0_ := Aside0.mk (Kd.R_elder' (RS HO_51.out) (Kd.R_base ho0) hb); have n1_ := Aside0.mk (Kd.R_elder' (RS HO_73.out) (Kd.R_base ho0) hb); have n2_ := Aside0.mk (Kd.V_elder' (VS HO_83.out) (Kd.R_base ho0) hb); have n3_ := Aside0.mk (Kd.R_lower (Kd.R_new' (Kd.R_new' (Kd.R_newM (M := fun k_ => (w.heap.size ≤ k_)) (Kd.R_mono (ok' := fun k_ => True) ho0 (fun _ hk_ => trivial)) (below_size (BS HB.out)) (fun k_ h_ => h_)) (Kd.R_lt (RS HO_51.out))) (Kd.R_lt (RS HO_73.out))) (below_size (BS HB.out))); have n4_ := Aside0.mk (below_step (BS HB.out) hb); clear HO_51; clear HO_73; clear HO_83; clear HB; have HO_51 := n0_; have HO_73 := n1_; have HO_83 := n2_; have HO428 := n3_; have HB := n4_; clear n0_ n1_ n2_ n3_ n4_; (try clear hb); (try clear hb2); (try clear hk); (try clear hi); (try clear ho0)))
          go_roundg k6
          case measure => have := HJ12.out; have := HJ26.out; have := HJ74.out; have := HJ131.out; have := HJ266.out; have := HK6.out; omega
          case rel => exact ⟨(t426), (wrap64 (x602_6 + 1)), Za, H', ⟨by have := HJ12.out; have := HJ26.out; have := HJ74.out; have := HJ131.out; have := HJ266.out; have := HK6.out; omega⟩, ⟨RS (Kd.R_mono HO_51.out (fun _ hk => ⟨hk.1.1, hk.1.2⟩))⟩, ⟨RS (Kd.R_mono HO_73.out (fun _ hk => ⟨hk.1.1, hk.1.2⟩))⟩, ⟨Kd.V_mono (Kd.R_V (RS HO428.out)) (fun k_ hk => ⟨.inr hk.1.1.1, ⟨hk.1.2, hk.2⟩⟩)⟩, ⟨BS HB.out⟩⟩
         ·replace c313 := Bool.eq_false_iff.mpr c313
          subst c313
          have H1 : (some false) = some r := by rw [if_neg (show ¬ (false = true) by decide)] at H; exact H
          clear H
          have H := H1
          clear H1
          obtain rfl := Option.some.inj H
          have p425 : 0 ≤ (x602_6 : Int) := OD
          have q425 : x602_6 < (l7.length : Int) := OD
          obtain ⟨ad425, A425_0, c425_0, e425, hx425_0, hl425_0, hi425_0⟩ := at_L1 HR7.out x602_6 p425 q425
          cases e425
          replace hx425_0 := (HB.out.cell (World.block_lt_of_cell? w _ hx425_0)).trans hx425_0
          have HR425_0 := Aside0.mk hi425_0
          have HC425_0 := Aside0.mk hl425_0
          clear hi425_0 hl425_0
          replace p425 := eq_true p425
          replace q425 := eq_true q425
          obtain ⟨Ao316, co316, eo316⟩ := Kd.V_slice HO_83.out
          subst eo316
          go_wp2_with (first | ((with_reducible refine gate_callee (f := 4) rfl ?_); refine goesL_ (some 610) rfl rfl Tryz.func4 (by kernel_rfl) rfl #[.slice Ao316 x83_6.length co316, .int .i64 a6, .slice A425_0 (rd_L1 l7 x602_6).length c425_0] rfl Zc ?_; (with_reducible refine (impl_WearBy.calls k6 _ _ x83_6 a6 (fun k_ => k_ < w.heap.size) _ _ (rd_L1 l7 x602_6) t426 false _ ?side1 ?side2 ?side3 A312.out).mono ?_); (case side1 => exact CS (Kd.V_reads' HO_83.out).2.2); (case side2 => exact (Kd.V_reads' HO_83.out).2.1); (case side3 => exact Kd.V_mk HC425_0.out (Kd.F_below (Kd.C_F (Kd.heap_int .i64) HR425_0.out) (BS HB.out))); rintro e w317 ⟨v427, rfl, ho0, hb⟩; refine ⟨_, rfl, ?_⟩; have n0_ := Aside0.mk (Kd.R_elder' (RS HO_51.out) (Kd.R_base ho0) hb); have n1_ := Aside0.mk (Kd.R_elder' (RS HO_73.out) (Kd.R_base ho0) hb); have n2_ := Aside0.mk (Kd.V_elder' (VS HO_83.out) (Kd.R_base ho0) hb); have n3_ := Aside0.mk (Kd.R_lower (Kd.R_new' (Kd.R_new' (Kd.R_newM (M := fun k_ => (w.heap.size ≤ k_)) (Kd.R_mono (ok' := fun k_ => True) ho0 (fun _ hk_ => trivial)) (below_size (BS HB.out)) (fun k_ h_ => h_)) (Kd.R_lt (RS HO_51.out))) (Kd.R_lt (RS HO_73.out))) (below_size (BS HB.out))); have n4_ := Aside0.mk (below_step (BS HB.out) hb); clear HO_51; clear HO_73; clear HO_83; clear HB; have HO_51 := n0_; have HO_73 := n1_; have HO_83 := n2_; have HO428 := n3_; have HB := n4_; clear n0_ n1_ n2_ n3_ n4_; (try clear hb); (try clear hb2); (try clear hk); (try clear hi); (try clear ho0)))
          go_ret
          exact ⟨Zb, BS HB.out⟩
        ·rw [if_neg c311] at H
         exact absurd H (by simp)
       ·rw [if_neg c310] at H
        exact absurd H (by simp)
      ·rw [if_neg c309] at H
       have c309b0 : decide (x602_6 < (l7.length : Int)) = false := decide_eq_false c309
       clear c309
       (first | rw [c309b0] | (simp only [i64_w, i32_w]; rw [c309b0]) | skip)
       replace H := Option.bind_eq_some_iff.mp H
       obtain ⟨t430, A3180, H⟩ := H
       try dsimp only at H
       have A318 := Aside0.mk A3180
       clear A3180
       by_cases c319 : t430 = true
       ·subst c319
        have H1 : (laws_FnStepsWornOfAll.j10 k6 l3 l8 a9 a10 a11 t379 t380 t381 t385 t389 t390 t401 t402) = some r := by rw [if_pos rfl] at H; exact H
        clear H
        have H := H1
        clear H1
        have H' := Aside0.mk H
        clear H
        obtain ⟨Ao320, co320, eo320⟩ := Kd.V_slice HO_83.out
        subst eo320
        obtain ⟨Ao321, co321, eo321⟩ := Kd.R_slice HO_51.out
        subst eo321
        go_wp2_with (first | ((with_reducible refine gate_callee (f := 10) rfl ?_); refine goesL_ (some 619) rfl rfl Tryz.func10 (by kernel_rfl) rfl #[.slice Ao320 x83_6.length co320, .slice Ao321 t371.length co321] rfl Zc ?_; (with_reducible refine (laws_wSame.calls k6 _ _ x83_6 _ _ t371 true _ ?side1 ?side2 ?side3 ?side4 A318.out).mono ?_); (case side1 => exact CS (Kd.V_reads' HO_83.out).2.2); (case side2 => exact (Kd.V_reads' HO_83.out).2.1); (case side3 => exact CS (Kd.R_reads' HO_51.out).2.2); (case side4 => exact (Kd.R_reads' HO_51.out).2.1); rintro e w' ⟨rfl, ⟨nd, rfl⟩⟩; refine ⟨_, rfl, ?_⟩))
        go_meet
        case rel => exact ⟨_, H', ⟨by have := HJ12.out; have := HJ26.out; have := HJ74.out; have := HJ131.out; have := HJ266.out; have := HK6.out; first | omega | exact Nat.le_refl _⟩, ⟨RS (Kd.R_mono HO_73.out (fun _ hk => hk.1))⟩, ⟨BS HB.out⟩⟩
       ·replace c319 := Bool.eq_false_iff.mpr c319
        subst c319
        have H1 : (some false) = some r := by rw [if_neg (show ¬ (false = true) by decide)] at H; exact H
        clear H
        have H := H1
        clear H1
        obtain rfl := Option.some.inj H
        obtain ⟨Ao322, co322, eo322⟩ := Kd.V_slice HO_83.out
        subst eo322
        obtain ⟨Ao323, co323, eo323⟩ := Kd.R_slice HO_51.out
        subst eo323
        go_wp2_with (first | ((with_reducible refine gate_callee (f := 10) rfl ?_); refine goesL_ (some 619) rfl rfl Tryz.func10 (by kernel_rfl) rfl #[.slice Ao322 x83_6.length co322, .slice Ao323 t371.length co323] rfl Zc ?_; (with_reducible refine (laws_wSame.calls k6 _ _ x83_6 _ _ t371 false _ ?side1 ?side2 ?side3 ?side4 A318.out).mono ?_); (case side1 => exact CS (Kd.V_reads' HO_83.out).2.2); (case side2 => exact (Kd.V_reads' HO_83.out).2.1); (case side3 => exact CS (Kd.R_reads' HO_51.out).2.2); (case side4 => exact (Kd.R_reads' HO_51.out).2.1); rintro e w' ⟨rfl, ⟨nd, rfl⟩⟩; refine ⟨_, rfl, ?_⟩))
        go_ret
        exact ⟨Zb, BS HB.out⟩
   ·replace c308 := Bool.eq_false_iff.mpr c308
    subst c308
    have H1 : (laws_FnStepsWornOfAll.j10 kj266 l3 l8 a9 a10 a11 t379 t380 t381 t385 t389 t390 t401 t402) = some r := by rw [if_neg (show ¬ (false = true) by decide)] at H; exact H
    clear H
    have H := H1
    clear H1
    have H' := Aside0.mk H
    clear H
    go_wp2
    go_meet
    case rel => exact ⟨_, H', ⟨by have := HJ12.out; have := HJ26.out; have := HJ74.out; have := HJ131.out; have := HJ266.out; first | omega | exact Nat.le_refl _⟩, ⟨RS (Kd.R_mono HO_73.out (fun _ hk => hk.1))⟩, ⟨BS HB.out⟩⟩
  case rest =>
   go_step
   exact laws_FnStepsWornOfAll.stage6 _ _ _ _ _ _ _ _ _ _ _ _ _ _ _ _ _ _ _ _ _ _ _ _ _ _ _ _ _ _ _ _ _ _ _ _ _ _ _ _ _ _ _ _ _ _ _ _ _ _ _ _ _ _ _ _ _ _ _ _ _ _ _ _ _ _ _ _ _ _ _ _ _ _ _ _ _ _ _ _ _ _ _ _ _ _ _ _ _ _ _ _ _ _ _ _ _ _ _ _ _ _ _ _ _ _ _ _ _ _ _ _ _ _ _ _ _ _ _ _ _ _ _ _ _ _ _ _ _ _ _ _ _ _ _ _ _ _ _ _ _ _ _ _ _ _ _ _ _ _ _ _ _ _ _ _ _ _ _ _ _ _ _ _ _ _ _ _ _ _ _ _ _ _ _ _ _ _ _ _ _ _ _ _ _ _ _ _ _ _ _ _ _ _ _ _ _ _ _ _ _ _ _ _ _ _ _ _ _ _ _ _ _ _ _ _ _ _ _ _ _ _ _ _ _ _ _ _ _ _ _ _ _ _ _ _ _ _ _ _ _ _ _ _ _ _ _ _ _ _ _ _ _ _ _ _ _ _ _ _ _ _ _ _ _ _ _ _ _ _ _ _ _ _ _ _ _ _ _ _ _ _ _ _ _ _ _ _ _ _ _ _ _ _ _ _ _ _ _ _ _ _ _ _ _ _ _ _ _ _ _ _ _ _ _ _ _ _ _ _ _ _ _ _ _ _ _ _ _ _ _ _ _ _ _ _ _ _ _ _ _ _ _ _ _ _ _ _ _ _ _ _ _ _ _ _ _ _ _ _ _ _ _ _ _ _ _ _ _ _ _ _ _ _ _ _ _ _ _ _ _ _ _ _ _ _ _ _ _ _ _ _ _ _ _ _ _ _ _ _ _ _ _ _ _ _ _ _ _ _ _ _ _ _ _ _ _ _ _ _ _ _ _ _ _ _ _ _ _ _ _ _ _ _ _ _ _ _ _ _ _ _ _ _ _ _ _ _ _ _ _ _ _ _ _ _ _ _ _ _ _ _ _ _ _ _ _ _ _ _ _ _ _ _ _ _ _ _ _ _ _ _ _ _ _ _ _ _ _ _ _ _ _ _ _ _ _ _ _ _ _ _ _ _ _ _ _ _ _ _ _ _ _ _ _ _ _ _ _ _ _ _ _ _ _ _ _ _ _ _ _ _ _ _ _ _ _ _ _ _ _ _ _ _ _ _ _ _ _ _ _ _ _ _ _ _ _ _ _ _ _ _ _ _ _ _ _ _ _ _ _ _ _ _ _ _ _ _ _ _ _ _ _ _ _ _ _ _ _ _ _ _ _ _ _ _ _ _ _ _ _ _ _ _ _ _ _ _ _ _ _ _ _ _ _ _ _ _ _ _ _ _ _ htb HR3 HC3 HR8 HC8 HJ12 HJ26 HJ74 HJ131 HJ266 HC307 hcut
end Go.Proofs.YtmonnbbihmpedaaGreatDoor.PFnStepsWornOfAll
