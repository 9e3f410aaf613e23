-- Written by wip/gen/mp.py of this repo (the kit's printer with our own parts): functions and their contracts.
import Derived.Test.YtmonnbbihmpedaaGreatDoorPFnStepsWornOfAllx10s7
namespace Go.Proofs.YtmonnbbihmpedaaGreatDoor.PFnStepsWornOfAll
open Go.RowKit Go.Proofs.YtmonnbbihmpedaaGreatDoorW.PrintWords Go.Proofs.YtmonnbbihmpedaaGreatDoorW.PrintLast Go.Proofs.YtmonnbbihmpedaaGreatDoorW.PrintMore
attribute [local go_sem] yielded_undef max2_int min2_int max_two min_two max_three min_three max_four min_four   -- for this text's walks alone
set_option linter.unusedVariables false
set_option linter.unusedSimpArgs false

/-! ### laws_FnStepsWornOfAll: function 3 -/
set_option maxHeartbeats 8000000 in
set_option maxRecDepth 100000 in
theorem laws_FnStepsWornOfAll.stage6 (k c0 c2 c3 c5 c7 c8 kj12 kj26 kj74 kj131 kj266 : Nat) (A0 A2 A3 A5 A7 A8 : Option Addr) (l0 l2 l3 l5 l8 t371 t401 : List Int) (a1 a4 a6 a9 a10 t336 t338 t357 t358 t360 t361 t379 t380 t382 t383 t385 t387 : Int) (l7 : List (List Int)) (a11 t389 t391 : ByteArray) (r t327 t329 t332 t333 t334 t335 t337 t339 t359 t362 t364 t368 t372 t376 t381 t384 t386 t388 t390 t392 t394 t398 t402 t406 : Bool) (w wc : World) (ba bb bc bd be bf bg bh bi bj bk bl bm bn bo bp bq br bs bt bu bv bw bx bz b0 b1 b2 b3 b4 b5 b6 v325 v330 b7 b8 b9 bA bB bC bD bE bF bG bH bI bJ bK bL bM bN bO bP bQ bR bS bT bU bV bW bX bY bZ da db dc dd de df dg dh di dj dk dl dm dn dp dq dr ds dt du dv dw dx dy dz d0 d1 d2 d3 d4 d5 d6 d7 d8 d9 dA dB dC dD dE dF dG dH dI dJ dK dL dM dN dO dP dQ dR dS dT dU dV dW dX dY dZ ea eb ec ed ee ef eg eh ei ej ek el em en eo ep eq er es et eu ev ew ex ey ez e0 e1 e2 e3 e4 e5 e6 e7 e8 e9 eA eB eC eD eE eF v365 v369 v373 v377 v395 v399 v403 v407 eG eH eI eJ eK eL eM eN eO eP eQ eR eS eT eU eV eW eX eY eZ fa fb fc fd fe ff fg fh fi fj fk fl fm fn fo fp fq fr fs ft fu fv fw fx fy fz f0 f1 f2 f3 f4 f5 f6 f7 f8 f9 fA fB fC fD fE fF fG fH fI fJ fK fL fM fN fO fP fQ fR fS fT fU fV fW fX fY fZ ga gb gc gd ge gf gg gh gi gj gl gm gn go gp gq gr gs gt gu gv gw gx gy gz g0 g1 g2 g3 g4 g5 g6 g7 g8 g9 gA gB gC gD gE gF gG gH gI gJ gK gL gM gN gO gP gQ gR gS gT gU gV gW gX gY gZ ma mb mc md me mf mg mh mi mj ml mm mn mo mq mr ms mt mu mv mw mx my mz m0 m1 m2 m3 m4 m5 m6 m7 m8 m9 mA mB mC mD mE mF mG mH mI mJ mK mL mM mN mO mP mQ mR mS mT mU mV mW mX mY mZ na nb nc ne nf ng nh ni nj nk nl nm nn no np nq nr ns nt nu nv nw nx ny nz n0 n1 n2 n3 n4 n5 n6 n7 n8 n9 nA nB nC nD nE nF nG nH nI nJ nK nL nM nN nO nP nQ nR nS nT nU nV nW nX nY nZ oa ob oc od oe of og oh oi oj ok ol om on oo op oq os ot ou ov ow ox oy oz o0 o1 o2 o3 o4 o5 o6 o7 o8 o9 oA oB oC oD oE oF oG oH oI oJ oK oL oM oN oO oP oQ oR oS oT oU oV oW oX oY oZ pa pb pc pd pe pf pg ph pi pj pk pl pm pn po pp pq pr ps pt pu pv pw px py pz p0 p1 p2 p3 p4 p5 p6 p7 p8 p9 pA pB pC pD pE pF pG pH pI pJ pK pL pM pN pO : Value) (htb : TBB w) (HR3 : Aside0 ((Kd.int IntKind.i64).C w A3 l3.length l3)) (HC3 : Aside0 (l3.length ≤ c3)) (HR8 : Aside0 ((Kd.int IntKind.i64).C w A8 l8.length l8)) (HC8 : Aside0 (l8.length ≤ c8)) (HJ12 : Aside0 (kj12 + 1 ≤ k)) (HJ26 : Aside0 (kj26 + 1 ≤ kj12)) (HJ74 : Aside0 (kj74 + 1 ≤ kj26)) (HJ131 : Aside0 (kj131 + 1 ≤ kj74)) (HJ266 : Aside0 (kj266 + 1 ≤ kj131)) (HC307 : Aside0 ((if t372 = true then laws_FnStepsWornOfAll.l2 kj266 l3 a6 l8 a9 a10 a11 t371 t379 t380 t381 t385 t389 t390 t401 t402 l5 l7 (↑l7.length : Int) 0 else j10 kj266 l3 l8 a9 a10 a11 t379 t380 t381 t385 t389 t390 t401 t402) = some r)) (hcut : ∃ (kq : Nat), Aside0 (j10 kq l3 l8 a9 a10 a11 t379 t380 t381 t385 t389 t390 t401 t402 = some r) ∧ Aside0 (kq ≤ kj266) ∧ Aside0 ((Kd.int IntKind.i64).R 3 wc w.heap.size (fun (k_ : Nat) => w.heap.size ≤ k_) v403 t401) ∧ Aside0 (Below w.heap.size w wc)) : Code.wp Tryz.prog (second_ (second_ (second_ (second_ (second_ (second_ (second_ (second_ (second_ (second_ (second_ (second_ (second_ (second_ (second_ (second_ (second_ (second_ (second_ (second_ (second_ (second_ (second_ (second_ (second_ (second_ (second_ (second_ (second_ (body_ Tryz.f3)))))))))))))))))))))))))))))) (bodyPost Tryz.prog Tryz.f3 (fun e w' => e = .returned (.bool r) ∧ Below w.heap.size w w')) { tmps := #[.slice A0 l0.length c0, .int .i64 a1, .slice A2 l2.length c2, .slice A3 l3.length c3, .int .i64 a4, .slice A5 l5.length c5, .int .i64 a6, .slice A7 l7.length c7, .slice A8 l8.length c8, .int .i64 a9, .int .i64 a10, .string a11, undef, undef, undef, undef, undef, undef, undef, undef, undef, undef, undef, undef, nh, v325, .bool t327, v330, .bool t329, .bool t332, .bool t333, .bool t334, .bool t335, .int .i64 t336, .bool t337, .int .i64 t338, .bool t339, d8, d9, dA, dB, .int .i64 t357, .int .i64 t358, .bool t359, .int .i64 t360, .int .i64 t361, .bool t362, v365, .bool t364, v369, .bool t368, v373, .bool t372, v377, .bool t376, .int .i64 t379, .int .i64 t380, .bool t381, .int .i64 t382, .int .i64 t383, .bool t384, .int .i64 t385, .bool t386, .int .i64 t387, .bool t388, .string t389, .bool t390, .string t391, .bool t392, v395, .bool t394, v399, .bool t398, v403, .bool t402, v407, .bool t406, g5, g6, g7, g8, g9, gA, ni, undef, nj, nk, nl, undef, undef, undef, undef, undef, undef, undef, undef, ba, bb, bc, bd, be, bf, bg, bh, bi, bj, bk, bl, bm, bn, bo, bp, bq, br, bs, bt, bu, bv, bw, bx, bz, b0, b1, b2, b3, b4, b5, b6, n9, nA, nB, nC, nD, nE, nF, nG, nH, nI, nJ, nK, nL, nM, nN, nO, nP, nQ, nR, nS, nT, nU, nV, nW, nX, nY, nZ, oa, ob, oc, od, oe, of, og, oh, oi, oj, ok, ol, om, on, b7, b8, b9, bA, bB, bC, bD, bE, bF, bG, bH, bI, bJ, bK, bL, bM, bN, bO, bP, bQ, bR, bS, bT, bU, bV, bW, bX, bY, bZ, da, db, dc, dd, de, df, dg, dh, di, dj, dk, dl, dm, dn, dp, dq, dr, ds, dt, du, dv, dw, dx, dy, dz, d0, d1, d2, d3, d4, d5, d6, d7, oo, dC, dD, dE, dF, dG, dH, dI, dJ, dK, dL, dM, dN, dO, dP, dQ, dR, dS, dT, dU, dV, dW, dX, dY, dZ, ea, eb, ec, ed, ee, ef, eg, eh, ei, ej, ek, el, em, en, eo, ep, eq, er, es, et, eu, ev, ew, ex, ey, ez, e0, e1, e2, e3, e4, e5, e6, e7, e8, e9, eA, eB, eC, eD, eE, eF, op, oq, os, ot, ou, ov, ow, ox, oy, oz, o0, o1, o2, o3, o4, o5, o6, o7, o8, o9, oA, oB, oC, oD, oE, oF, oG, oH, oI, oJ, oK, oL, oM, oN, oO, oP, oQ, oR, oS, oT, oU, oV, oW, oX, oY, oZ, pa, pb, pc, pd, pe, pf, pg, ph, pi, pj, pk, pl, pm, pn, po, pp, pq, pr, ps, pt, pu, pv, pw, px, py, pz, p0, p1, p2, p3, p4, p5, p6, p7, p8, p9, pA, pB, pC, pD, pE, pF, pG, pH, pI, pJ, pK, pL, pM, pN, eG, eH, eI, eJ, eK, eL, eM, eN, eO, eP, eQ, eR, eS, eT, eU, eV, eW, eX, eY, eZ, fa, fb, fc, fd, fe, ff, fg, fh, fi, fj, fk, fl, fm, fn, fo, fp, fq, fr, fs, ft, fu, fv, fw, fx, fy, fz, f0, f1, f2, f3, f4, f5, f6, f7, f8, f9, fA, fB, fC, fD, fE, fF, fG, fH, fI, fJ, fK, fL, fM, fN, fO, fP, fQ, fR, fS, fT, fU, fV, fW, fX, fY, fZ, ga, gb, gc, gd, ge, gf, gg, gh, gi, gj, gl, gm, gn, go, gp, gq, gr, gs, gt, gu, gv, gw, gx, gy, gz, g0, g1, g2, g3, g4, pO, gB, gC, gD, gE, gF, gG, gH, gI, gJ, gK, gL, gM, gN, gO, gP, gQ, gR, gS, gT, gU, gV, gW, gX, gY, gZ, ma, mb, mc, md, me, mf, mg, mh, mi, mj, ml, mm, mn, mo, mq, mr, ms, mt, mu, mv, mw, mx, my, mz, m0, m1, m2, m3, m4, m5, m6, m7, m8, m9, mA, mB, mC, mD, mE, mF, mG, mH, mI, mJ, mK, mL, mM, mN, mO, mP, mQ, mR, mS, mT, mU, mV, mW, mX, mY, mZ, na, nb, nc, ne, nf, ng, nm, nn, no, np, nq, nr, ns, nt, nu, nv, nw, nx, ny, nz, n0, n1, n2, n3, n4, n5, n6, n7, n8, undef, undef, undef, undef, undef, undef, undef, undef, undef, undef, undef, undef, undef, undef, undef, undef, undef, undef, undef, undef, undef, undef, undef, undef, undef, undef, undef, undef, undef, undef, undef, undef, undef, undef, undef, undef, undef, undef, undef, undef, undef, undef, undef, undef, undef, undef, undef, undef, undef, undef, undef, undef, undef, undef, undef, undef, undef, undef, undef, undef, undef, undef, undef, undef, undef, undef, undef, undef, undef, undef, undef, undef, undef, undef, undef, undef, undef, undef, undef, undef, undef, undef, undef, undef, undef, undef, undef], defers := [] } wc := by
 dsimp only [second_, body_, Tryz.f3]
 clear HC307
 (try clear c42); (try clear p42); (try clear q42); (try clear hx42); (try clear c308); (try clear c309); (try clear c309b0); (try clear c310); (try clear c310b0); (try clear c311); (try clear c311b0); (try clear c313); (try clear c319); (try clear hx425_0); (try clear p425); (try clear q425)
 obtain ⟨kq, HA, HJ306, HO_73, HB⟩ := hcut
 cases kq with
 | zero => exact absurd HA.out (by simp [laws_FnStepsWornOfAll.j10])
 | succ kj306 =>
  have H := HA.out
  clear HA
  simp only [laws_FnStepsWornOfAll.j10] at H
  have HC324 := Aside0.mk H
  clear H
  go_upto_if 621 with (fail)
  go_cut [] from 621 to 621 (fun wc => ∃ (kq : Nat), Aside0 (laws_FnStepsWornOfAll.j11 kq l3 a11 t385 t389 t390 t401 t402 = some r) ∧ Aside0 (kq ≤ kj306) ∧ Aside0 (Kd.R (Kd.int .i64) 3 wc w.heap.size (fun k_ => (w.heap.size ≤ k_)) v403 t401) ∧ Aside0 (Below w.heap.size w wc))
  case first =>
   have H := HC324.out
   clear HC324
   by_cases c325 : t381 = true
   ·subst c325
    have H1 : ((impl_MostWears.f kj306 l8 a9).bind fun bt431 => (if bt431.2 = true then (if t379 < 0 then (some false) else (if t380 < 0 then (some false) else (if t380 ≥ a10 then (some false) else (if (wrap64 ((wrap64 (t379 * a10)) + t380)) = bt431.1 then (laws_FnStepsWornOfAll.j11 kj306 l3 a11 t385 t389 t390 t401 t402) else (some false))))) else (some false))) = some r := by rw [if_pos rfl] at H; exact H
    clear H
    have H := H1
    clear H1
    replace H := Option.bind_eq_some_iff.mp H
    obtain ⟨⟨t431, t432⟩, A3260, H⟩ := H
    try dsimp only at H
    have A326 := Aside0.mk A3260
    clear A3260
    by_cases c327 : t432 = true
    ·subst c327
     have H1 : (if t379 < 0 then (some false) else (if t380 < 0 then (some false) else (if t380 ≥ a10 then (some false) else (if (wrap64 ((wrap64 (t379 * a10)) + t380)) = t431 then (laws_FnStepsWornOfAll.j11 kj306 l3 a11 t385 t389 t390 t401 t402) else (some false))))) = some r := by rw [if_pos rfl] at H; exact H
     clear H
     have H := H1
     clear H1
     by_cases c328 : t379 < 0
     ·rw [if_pos c328] at H
      have c328b0 : decide (t379 < 0) = true := decide_eq_true c328
      clear c328
      (first | rw [c328b0] | (simp only [i64_w, i32_w]; rw [c328b0]) | skip)
      obtain rfl := Option.some.inj H
      go_wp2_with (first | ((with_reducible refine gate_callee (f := 8) rfl ?_); refine goesL_ (some 625) rfl rfl Tryz.func8 (by kernel_rfl) rfl #[.slice A8 l8.length c8, .int .i64 a9] rfl Zc ?_; (with_reducible refine (impl_MostWears.calls kj306 _ _ l8 a9 t431 true _ ?side1 ?side2 A326.out).mono ?_); (case side1 => exact CS (Kd.C_below HR8.out HB.out)); (case side2 => exact HC8.out); rintro e w329 ⟨rfl, hb⟩; refine ⟨_, rfl, ?_⟩; have n0_ := Aside0.mk (Kd.R_below (RS HO_73.out) hb); have n1_ := Aside0.mk (below_step (BS HB.out) hb); clear HO_73; clear HB; have HO_73 := n0_; have HB := n1_; clear n0_ n1_; (try clear hb); (try clear hb2); (try clear hk); (try clear hi)))
      go_ret
      exact ⟨Zb, BS HB.out⟩
     ·rw [if_neg c328] at H
      have c328b0 : decide (t379 < 0) = false := decide_eq_false c328
      clear c328
      (first | rw [c328b0] | (simp only [i64_w, i32_w]; rw [c328b0]) | skip)
      by_cases c330 : t380 < 0
      ·rw [if_pos c330] at H
       have c330b0 : decide (t380 < 0) = true := decide_eq_true c330
       clear c330
       obtain rfl := Option.some.inj H
       go_wp2_with (first | ((with_reducible refine gate_callee (f := 8) rfl ?_); refine goesL_ (some 625) rfl rfl Tryz.func8 (by kernel_rfl) rfl #[.slice A8 l8.length c8, .int .i64 a9] rfl Zc ?_; (with_reducible refine (impl_MostWears.calls kj306 _ _ l8 a9 t431 true _ ?side1 ?side2 A326.out).mono ?_); (case side1 => exact CS (Kd.C_below HR8.out HB.out)); (case side2 => exact HC8.out); rintro e w331 ⟨rfl, hb⟩; refine ⟨_, rfl, ?_⟩; have n0_ := Aside0.mk (Kd.R_below (RS HO_73.out) hb); have n1_ := Aside0.mk (below_step (BS HB.out) hb); clear HO_73; clear HB; have HO_73 := n0_; have HB := n1_; clear n0_ n1_; (try clear hb); (try clear hb2); (try clear hk); (try clear hi)))
       go_ret
       exact ⟨Zb, BS HB.out⟩
      ·rw [if_neg c330] at H
       have c330b0 : decide (t380 < 0) = false := decide_eq_false c330
       clear c330
       by_cases c332 : t380 ≥ a10
       ·rw [if_pos c332] at H
        have c332b0 : decide (a10 ≤ t380) = true := decide_eq_true c332
        clear c332
        obtain rfl := Option.some.inj H
        go_wp2_with (first | ((with_reducible refine gate_callee (f := 8) rfl ?_); refine goesL_ (some 625) rfl rfl Tryz.func8 (by kernel_rfl) rfl #[.slice A8 l8.length c8, .int .i64 a9] rfl Zc ?_; (with_reducible refine (impl_MostWears.calls kj306 _ _ l8 a9 t431 true _ ?side1 ?side2 A326.out).mono ?_); (case side1 => exact CS (Kd.C_below HR8.out HB.out)); (case side2 => exact HC8.out); rintro e w333 ⟨rfl, hb⟩; refine ⟨_, rfl, ?_⟩; have n0_ := Aside0.mk (Kd.R_below (RS HO_73.out) hb); have n1_ := Aside0.mk (below_step (BS HB.out) hb); clear HO_73; clear HB; have HO_73 := n0_; have HB := n1_; clear n0_ n1_; (try clear hb); (try clear hb2); (try clear hk); (try clear hi)))
        go_ret
        exact ⟨Zb, BS HB.out⟩
       ·rw [if_neg c332] at H
        have c332b0 : decide (a10 ≤ t380) = false := decide_eq_false c332
        clear c332
        by_cases c334 : (wrap64 ((wrap64 (t379 * a10)) + t380)) = t431
        ·rw [if_pos c334] at H
         have c334b0 : ((wrap64 ((wrap64 (t379 * a10)) + t380)) == t431) = true := beq_iff_eq.mpr c334
         have c334b1 : ((wrap64 ((wrap64 (t379 * a10)) + t380)) != t431) = false := bne_eq_false_iff_eq.mpr c334
         clear c334
         have H' := Aside0.mk H
         clear H
         go_wp2_with (first | ((with_reducible refine gate_callee (f := 8) rfl ?_); refine goesL_ (some 625) rfl rfl Tryz.func8 (by kernel_rfl) rfl #[.slice A8 l8.length c8, .int .i64 a9] rfl Zc ?_; (with_reducible refine (impl_MostWears.calls kj306 _ _ l8 a9 t431 true _ ?side1 ?side2 A326.out).mono ?_); (case side1 => exact CS (Kd.C_below HR8.out HB.out)); (case side2 => exact HC8.out); rintro e w335 ⟨rfl, hb⟩; refine ⟨_, rfl, ?_⟩; have n0_ := Aside0.mk (Kd.R_below (RS HO_73.out) hb); have n1_ := Aside0.mk (below_step (BS HB.out) hb); clear HO_73; clear HB; have HO_73 := n0_; have HB := n1_; clear n0_ n1_; (try clear hb); (try clear hb2); (try clear hk); (try clear hi)))
         go_meet
         case rel => exact ⟨_, H', ⟨by have := HJ12.out; have := HJ26.out; have := HJ74.out; have := HJ131.out; have := HJ266.out; have := HJ306.out; first | omega | exact Nat.le_refl _⟩, ⟨RS HO_73.out⟩, ⟨BS HB.out⟩⟩
        ·rw [if_neg c334] at H
         have c334b0 : ((wrap64 ((wrap64 (t379 * a10)) + t380)) == t431) = false := beq_eq_false_iff_ne.mpr c334
         have c334b1 : ((wrap64 ((wrap64 (t379 * a10)) + t380)) != t431) = true := bne_iff_ne.mpr c334
         obtain rfl := Option.some.inj H
         go_wp2_with (first | ((with_reducible refine gate_callee (f := 8) rfl ?_); refine goesL_ (some 625) rfl rfl Tryz.func8 (by kernel_rfl) rfl #[.slice A8 l8.length c8, .int .i64 a9] rfl Zc ?_; (with_reducible refine (impl_MostWears.calls kj306 _ _ l8 a9 t431 true _ ?side1 ?side2 A326.out).mono ?_); (case side1 => exact CS (Kd.C_below HR8.out HB.out)); (case side2 => exact HC8.out); rintro e w336 ⟨rfl, hb⟩; refine ⟨_, rfl, ?_⟩; have n0_ := Aside0.mk (Kd.R_below (RS HO_73.out) hb); have n1_ := Aside0.mk (below_step (BS HB.out) hb); clear HO_73; clear HB; have HO_73 := n0_; have HB := n1_; clear n0_ n1_; (try clear hb); (try clear hb2); (try clear hk); (try clear hi)))
         go_ret
         exact ⟨Zb, BS HB.out⟩
    ·replace c327 := Bool.eq_false_iff.mpr c327
     subst c327
     have H1 : (some false) = some r := by rw [if_neg (show ¬ (false = true) by decide)] at H; exact H
     clear H
     have H := H1
     clear H1
     obtain rfl := Option.some.inj H
     go_wp2_with (first | ((with_reducible refine gate_callee (f := 8) rfl ?_); refine goesL_ (some 625) rfl rfl Tryz.func8 (by kernel_rfl) rfl #[.slice A8 l8.length c8, .int .i64 a9] rfl Zc ?_; (with_reducible refine (impl_MostWears.calls kj306 _ _ l8 a9 t431 false _ ?side1 ?side2 A326.out).mono ?_); (case side1 => exact CS (Kd.C_below HR8.out HB.out)); (case side2 => exact HC8.out); rintro e w337 ⟨rfl, hb⟩; refine ⟨_, rfl, ?_⟩; have n0_ := Aside0.mk (Kd.R_below (RS HO_73.out) hb); have n1_ := Aside0.mk (below_step (BS HB.out) hb); clear HO_73; clear HB; have HO_73 := n0_; have HB := n1_; clear n0_ n1_; (try clear hb); (try clear hb2); (try clear hk); (try clear hi)))
     go_ret
     exact ⟨Zb, BS HB.out⟩
   ·replace c325 := Bool.eq_false_iff.mpr c325
    subst c325
    have H1 : (laws_FnStepsWornOfAll.j11 kj306 l3 a11 t385 t389 t390 t401 t402) = some r := by rw [if_neg (show ¬ (false = true) by decide)] at H; exact H
    clear H
    have H := H1
    clear H1
    have H' := Aside0.mk H
    clear H
    go_wp2
    go_meet
    case rel => exact ⟨_, H', ⟨by have := HJ12.out; have := HJ26.out; have := HJ74.out; have := HJ131.out; have := HJ266.out; have := HJ306.out; first | omega | exact Nat.le_refl _⟩, ⟨RS HO_73.out⟩, ⟨BS HB.out⟩⟩
  case rest =>
   go_step
   exact laws_FnStepsWornOfAll.stage7 _ _ _ _ _ _ _ _ _ _ _ _ _ _ _ _ _ _ _ _ _ _ _ _ _ _ _ _ _ _ _ _ _ _ _ _ _ _ _ _ _ _ _ _ _ _ _ _ _ _ _ _ _ _ _ _ _ _ _ _ _ _ _ _ _ _ _ _ _ _ _ _ _ _ _ _ _ _ _ _ _ _ _ _ _ _ _ _ _ _ _ _ _ _ _ _ _ _ _ _ _ _ _ _ _ _ _ _ _ _ _ _ _ _ _ _ _ _ _ _ _ _ _ _ _ _ _ _ _ _ _ _ _ _ _ _ _ _ _ _ _ _ _ _ _ _ _ _ _ _ _ _ _ _ _ _ _ _ _ _ _ _ _ _ _ _ _ _ _ _ _ _ _ _ _ _ _ _ _ _ _ _ _ _ _ _ _ _ _ _ _ _ _ _ _ _ _ _ _ _ _ _ _ _ _ _ _ _ _ _ _ _ _ _ _ _ _ _ _ _ _ _ _ _ _ _ _ _ _ _ _ _ _ _ _ _ _ _ _ _ _ _ _ _ _ _ _ _ _ _ _ _ _ _ _ _ _ _ _ _ _ _ _ _ _ _ _ _ _ _ _ _ _ _ _ _ _ _ _ _ _ _ _ _ _ _ _ _ _ _ _ _ _ _ _ _ _ _ _ _ _ _ _ _ _ _ _ _ _ _ _ _ _ _ _ _ _ _ _ _ _ _ _ _ _ _ _ _ _ _ _ _ _ _ _ _ _ _ _ _ _ _ _ _ _ _ _ _ _ _ _ _ _ _ _ _ _ _ _ _ _ _ _ _ _ _ _ _ _ _ _ _ _ _ _ _ _ _ _ _ _ _ _ _ _ _ _ _ _ _ _ _ _ _ _ _ _ _ _ _ _ _ _ _ _ _ _ _ _ _ _ _ _ _ _ _ _ _ _ _ _ _ _ _ _ _ _ _ _ _ _ _ _ _ _ _ _ _ _ _ _ _ _ _ _ _ _ _ _ _ _ _ _ _ _ _ _ _ _ _ _ _ _ _ _ _ _ _ _ _ _ _ _ _ _ _ _ _ _ _ _ _ _ _ _ _ _ _ _ _ _ _ _ _ _ _ _ _ _ _ _ _ _ _ _ _ _ _ _ _ _ _ _ _ _ _ _ _ _ _ _ _ _ _ _ _ _ _ _ _ _ _ _ _ _ _ _ _ _ _ _ _ _ _ _ _ _ _ _ _ _ _ _ _ _ _ _ _ _ _ _ _ _ _ _ _ _ _ _ _ _ _ _ _ _ _ _ _ _ _ _ _ _ _ _ _ _ _ _ _ _ _ _ _ _ _ _ _ _ _ _ _ _ _ _ _ _ _ _ _ _ _ _ _ _ _ _ _ _ _ _ _ _ _ _ _ _ _ _ _ _ _ _ _ _ _ _ _ _ _ _ _ _ _ _ _ _ _ _ _ _ _ _ _ _ _ htb HR3 HC3 HJ12 HJ26 HJ74 HJ131 HJ266 HJ306 HC324 hcut
end Go.Proofs.YtmonnbbihmpedaaGreatDoor.PFnStepsWornOfAll
