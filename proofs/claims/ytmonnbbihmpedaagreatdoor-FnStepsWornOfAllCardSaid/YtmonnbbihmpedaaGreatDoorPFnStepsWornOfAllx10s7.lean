-- Written by wip/gen/mp.py of this repo (the kit's printer with our own parts): functions and their contracts.
import Derived.Test.YtmonnbbihmpedaaGreatDoorPFnStepsWornOfAllx10d
namespace Go.Proofs.YtmonnbbihmpedaaGreatDoor.PFnStepsWornOfAll
open Go.RowKit Go.Proofs.YtmonnbbihmpedaaGreatDoorW.PrintWords Go.Proofs.YtmonnbbihmpedaaGreatDoorW.PrintLast Go.Proofs.YtmonnbbihmpedaaGreatDoorW.PrintMore
attribute [local go_sem] yielded_undef max2_int min2_int max_two min_two max_three min_three max_four min_four   -- for this text's walks alone
set_option linter.unusedVariables false
set_option linter.unusedSimpArgs false

/-! ### laws_FnStepsWornOfAll: function 3 -/
set_option maxHeartbeats 8000000 in
set_option maxRecDepth 100000 in
theorem laws_FnStepsWornOfAll.stage7 (k c0 c2 c3 c5 c7 c8 kj12 kj26 kj74 kj131 kj266 kj306 : Nat) (A0 A2 A3 A5 A7 A8 : Option Addr) (l0 l2 l3 l5 l8 t401 : List Int) (a1 a4 a6 a9 a10 t336 t338 t357 t358 t360 t361 t379 t380 t382 t383 t385 t387 : Int) (l7 : List (List Int)) (a11 t389 t391 : ByteArray) (r t327 t329 t332 t333 t334 t335 t337 t339 t359 t362 t364 t368 t372 t376 t381 t384 t386 t388 t390 t392 t394 t398 t402 t406 : Bool) (w wc : World) (ba bb bc bd be bf bg bh bi bj bk bl bm bn bo bp bq br bs bt bu bv bw bx bz b0 b1 b2 b3 b4 b5 b6 v325 v330 b7 b8 b9 bA bB bC bD bE bF bG bH bI bJ bK bL bM bN bO bP bQ bR bS bT bU bV bW bX bY bZ da db dc dd de df dg dh di dj dk dl dm dn dp dq dr ds dt du dv dw dx dy dz d0 d1 d2 d3 d4 d5 d6 d7 d8 d9 dA dB dC dD dE dF dG dH dI dJ dK dL dM dN dO dP dQ dR dS dT dU dV dW dX dY dZ ea eb ec ed ee ef eg eh ei ej ek el em en eo ep eq er es et eu ev ew ex ey ez e0 e1 e2 e3 e4 e5 e6 e7 e8 e9 eA eB eC eD eE eF v365 v369 v373 v377 v395 v399 v403 v407 eG eH eI eJ eK eL eM eN eO eP eQ eR eS eT eU eV eW eX eY eZ fa fb fc fd fe ff fg fh fi fj fk fl fm fn fo fp fq fr fs ft fu fv fw fx fy fz f0 f1 f2 f3 f4 f5 f6 f7 f8 f9 fA fB fC fD fE fF fG fH fI fJ fK fL fM fN fO fP fQ fR fS fT fU fV fW fX fY fZ ga gb gc gd ge gf gg gh gi gj gl gm gn go gp gq gr gs gt gu gv gw gx gy gz g0 g1 g2 g3 g4 g5 g6 g7 g8 g9 gA gB gC gD gE gF gG gH gI gJ gK gL gM gN gO gP gQ gR gS gT gU gV gW gX gY gZ ma mb mc md me mf mg mh mi mj ml mm mn mo mq mr ms mt mu mv mw mx my mz m0 m1 m2 m3 m4 m5 m6 m7 m8 m9 mA mB mC mD mE mF mG mH mI mJ mK mL mM mN mO mP mQ mR mS mT mU mV mW mX mY mZ na nb nc ne nf ng nh ni nj nk nl nm nn no np nq nr ns nt nu nv nw nx ny nz n0 n1 n2 n3 n4 n5 n6 n7 n8 n9 nA nB nC nD nE nF nG nH nI nJ nK nL nM nN nO nP nQ nR nS nT nU nV nW nX nY nZ oa ob oc od oe of og oh oi oj ok ol om on oo op oq os ot ou ov ow ox oy oz o0 o1 o2 o3 o4 o5 o6 o7 o8 o9 oA oB oC oD oE oF oG oH oI oJ oK oL oM oN oO oP oQ oR oS oT oU oV oW oX oY oZ pa pb pc pd pe pf pg ph pi pj pk pl pm pn po pp pq pr ps pt pu pv pw px py pz p0 p1 p2 p3 p4 p5 p6 p7 p8 p9 pA pB pC pD pE pF pG pH pI pJ pK pL pM pN pO pP pQ pR pS pT pU pV pW pX pY pZ qa qb qc qd qe qf qg qh qi qj qk ql qm qn qo qp qq qr qs qt qu qv : Value) (htb : TBB w) (HR3 : Aside0 ((Kd.int IntKind.i64).C w A3 l3.length l3)) (HC3 : Aside0 (l3.length ≤ c3)) (HJ12 : Aside0 (kj12 + 1 ≤ k)) (HJ26 : Aside0 (kj26 + 1 ≤ kj12)) (HJ74 : Aside0 (kj74 + 1 ≤ kj26)) (HJ131 : Aside0 (kj131 + 1 ≤ kj74)) (HJ266 : Aside0 (kj266 + 1 ≤ kj131)) (HJ306 : Aside0 (kj306 + 1 ≤ kj266)) (HC324 : Aside0 ((if t381 = true then (impl_MostWears.f kj306 l8 a9).bind fun (bt431 : Int × Bool) => if bt431.snd = true then if t379 < 0 then some false else if t380 < 0 then some false else if t380 ≥ a10 then some false else if wrap64 (wrap64 (t379 * a10) + t380) = bt431.fst then j11 kj306 l3 a11 t385 t389 t390 t401 t402 else some false else some false else j11 kj306 l3 a11 t385 t389 t390 t401 t402) = some r)) (hcut : ∃ (kq : Nat), Aside0 (j11 kq l3 a11 t385 t389 t390 t401 t402 = some r) ∧ Aside0 (kq ≤ kj306) ∧ Aside0 ((Kd.int IntKind.i64).R 3 wc w.heap.size (fun (k_ : Nat) => w.heap.size ≤ k_) v403 t401) ∧ Aside0 (Below w.heap.size w wc)) : Code.wp Tryz.prog (second_ (second_ (second_ (second_ (second_ (second_ (second_ (second_ (second_ (second_ (second_ (second_ (second_ (second_ (second_ (second_ (second_ (second_ (second_ (second_ (second_ (second_ (second_ (second_ (second_ (second_ (second_ (second_ (second_ (second_ (body_ Tryz.f3))))))))))))))))))))))))))))))) (bodyPost Tryz.prog Tryz.f3 (fun e w' => e = .returned (.bool r) ∧ Below w.heap.size w w')) { tmps := #[.slice A0 l0.length c0, .int .i64 a1, .slice A2 l2.length c2, .slice A3 l3.length c3, .int .i64 a4, .slice A5 l5.length c5, .int .i64 a6, .slice A7 l7.length c7, .slice A8 l8.length c8, .int .i64 a9, .int .i64 a10, .string a11, undef, undef, undef, undef, undef, undef, undef, undef, undef, undef, undef, undef, n8, v325, .bool t327, v330, .bool t329, .bool t332, .bool t333, .bool t334, .bool t335, .int .i64 t336, .bool t337, .int .i64 t338, .bool t339, d8, d9, dA, dB, .int .i64 t357, .int .i64 t358, .bool t359, .int .i64 t360, .int .i64 t361, .bool t362, v365, .bool t364, v369, .bool t368, v373, .bool t372, v377, .bool t376, .int .i64 t379, .int .i64 t380, .bool t381, .int .i64 t382, .int .i64 t383, .bool t384, .int .i64 t385, .bool t386, .int .i64 t387, .bool t388, .string t389, .bool t390, .string t391, .bool t392, v395, .bool t394, v399, .bool t398, v403, .bool t402, v407, .bool t406, g5, g6, g7, g8, g9, gA, nh, undef, ni, nj, nk, n9, nA, undef, undef, undef, undef, undef, undef, ba, bb, bc, bd, be, bf, bg, bh, bi, bj, bk, bl, bm, bn, bo, bp, bq, br, bs, bt, bu, bv, bw, bx, bz, b0, b1, b2, b3, b4, b5, b6, og, oh, oi, oj, ok, ol, om, on, oo, op, oq, os, ot, ou, ov, ow, ox, oy, oz, o0, o1, o2, o3, o4, o5, o6, o7, o8, o9, oA, oB, oC, oD, oE, oF, oG, oH, oI, oJ, oK, oL, b7, b8, b9, bA, bB, bC, bD, bE, bF, bG, bH, bI, bJ, bK, bL, bM, bN, bO, bP, bQ, bR, bS, bT, bU, bV, bW, bX, bY, bZ, da, db, dc, dd, de, df, dg, dh, di, dj, dk, dl, dm, dn, dp, dq, dr, ds, dt, du, dv, dw, dx, dy, dz, d0, d1, d2, d3, d4, d5, d6, d7, oM, dC, dD, dE, dF, dG, dH, dI, dJ, dK, dL, dM, dN, dO, dP, dQ, dR, dS, dT, dU, dV, dW, dX, dY, dZ, ea, eb, ec, ed, ee, ef, eg, eh, ei, ej, ek, el, em, en, eo, ep, eq, er, es, et, eu, ev, ew, ex, ey, ez, e0, e1, e2, e3, e4, e5, e6, e7, e8, e9, eA, eB, eC, eD, eE, eF, oN, oO, oP, oQ, oR, oS, oT, oU, oV, oW, oX, oY, oZ, pa, pb, pc, pd, pe, pf, pg, ph, pi, pj, pk, pl, pm, pn, po, pp, pq, pr, ps, pt, pu, pv, pw, px, py, pz, p0, p1, p2, p3, p4, p5, p6, p7, p8, p9, pA, pB, pC, pD, pE, pF, pG, pH, pI, pJ, pK, pL, pM, pN, pO, pP, pQ, pR, pS, pT, pU, pV, pW, pX, pY, pZ, qa, qb, qc, qd, qe, qf, qg, qh, qi, qj, qk, ql, qm, qn, qo, qp, qq, qr, qs, qt, qu, eG, eH, eI, eJ, eK, eL, eM, eN, eO, eP, eQ, eR, eS, eT, eU, eV, eW, eX, eY, eZ, fa, fb, fc, fd, fe, ff, fg, fh, fi, fj, fk, fl, fm, fn, fo, fp, fq, fr, fs, ft, fu, fv, fw, fx, fy, fz, f0, f1, f2, f3, f4, f5, f6, f7, f8, f9, fA, fB, fC, fD, fE, fF, fG, fH, fI, fJ, fK, fL, fM, fN, fO, fP, fQ, fR, fS, fT, fU, fV, fW, fX, fY, fZ, ga, gb, gc, gd, ge, gf, gg, gh, gi, gj, gl, gm, gn, go, gp, gq, gr, gs, gt, gu, gv, gw, gx, gy, gz, g0, g1, g2, g3, g4, qv, gB, gC, gD, gE, gF, gG, gH, gI, gJ, gK, gL, gM, gN, gO, gP, gQ, gR, gS, gT, gU, gV, gW, gX, gY, gZ, ma, mb, mc, md, me, mf, mg, mh, mi, mj, ml, mm, mn, mo, mq, mr, ms, mt, mu, mv, mw, mx, my, mz, m0, m1, m2, m3, m4, m5, m6, m7, m8, m9, mA, mB, mC, mD, mE, mF, mG, mH, mI, mJ, mK, mL, mM, mN, mO, mP, mQ, mR, mS, mT, mU, mV, mW, mX, mY, mZ, na, nb, nc, ne, nf, ng, nl, nm, nn, no, np, nq, nr, ns, nt, nu, nv, nw, nx, ny, nz, n0, n1, n2, n3, n4, n5, n6, n7, nB, nC, nD, nE, nF, nG, nH, nI, nJ, nK, nL, nM, nN, nO, nP, nQ, nR, nS, nT, nU, nV, nW, nX, nY, nZ, oa, ob, oc, od, oe, of, undef, undef, undef, undef, undef, undef, undef, undef, undef, undef, undef, undef, undef, undef, undef, undef, undef, undef, undef, undef, undef, undef, undef, undef, undef, undef, undef, undef, undef, undef, undef, undef, undef, undef, undef, undef, undef, undef, undef, undef, undef, undef, undef, undef, undef, undef, undef, undef, undef, undef, undef, undef, undef, undef, undef, undef], defers := [] } wc := by
 dsimp only [second_, body_, Tryz.f3]
 clear HC324
 (try clear c33); (try clear c325); (try clear c327); (try clear c328); (try clear c328b0); (try clear c330); (try clear c330b0); (try clear c332); (try clear c332b0); (try clear c334); (try clear c334b0); (try clear c334b1)
 obtain ⟨kq, HA, HJ323, HO_73, HB⟩ := hcut
 cases kq with
 | zero => exact absurd HA.out (by simp [laws_FnStepsWornOfAll.j11])
 | succ kj323 =>
  have H := HA.out
  clear HA
  simp only [laws_FnStepsWornOfAll.j11] at H
  by_cases c338 : t390 = true
  ·subst c338
   have H1 : ((impl_ParseBears.f kj323 t389).bind fun bt433 => (if bt433.2 = true then ((laws_wSame.f kj323 bt433.1 l3).bind fun t437 => (laws_FnStepsWornOfAll.j12 kj323 l3 a11 t385 t401 t402 (!t437))) else (laws_FnStepsWornOfAll.j12 kj323 l3 a11 t385 t401 t402 true))) = some r := by rw [if_pos rfl] at H; exact H
   clear H
   have H := H1
   clear H1
   replace H := Option.bind_eq_some_iff.mp H
   obtain ⟨⟨t433, t434⟩, A3390, H⟩ := H
   try dsimp only at H
   have A339 := Aside0.mk A3390
   clear A3390
   have HC340 := Aside0.mk H
   clear H
   go_upto_region 71 with (first | ((with_reducible refine gate_callee (f := 29) rfl ?_); refine goesL_ (some 655) rfl rfl Tryz.func29 (by kernel_rfl) rfl #[.string t389] rfl Zc ?_; (with_reducible refine (impl_ParseBears.calls kj323 t389 t433 t434 _ ?side1 A339.out).mono ?_); (case side1 => exact TBB.below htb (BS HB.out)); rintro e w341 ⟨v435, rfl, ho0, hb⟩; refine ⟨_, rfl, ?_⟩; have n0_ := Aside0.mk (Kd.R_elder' (RS HO_73.out) (Kd.R_base ho0) hb); have n1_ := Aside0.mk (Kd.R_lower (Kd.R_new' (Kd.R_newM (M := fun k_ => (w.heap.size ≤ k_)) ho0 (below_size (BS HB.out)) (fun k_ h_ => h_)) (Kd.R_lt (RS HO_73.out))) (below_size (BS HB.out))); have n2_ := Aside0.mk (below_step (BS HB.out) hb); clear HO_73; clear HB; have HO_73 := n0_; have HO436 := n1_; have HB := n2_; clear n0_ n1_ n2_; (try clear hb); (try clear hb2); (try clear hk); (try clear hi); (try clear ho0)))
   (try simp only [Act.put, List.setIfInBounds_toArray, List.set_cons_zero, List.set_cons_succ])
   go_cut [665] from 665 to 665 (fun v665 wc => ∃ (kq : Nat) (x665_339 : Bool), v665 = .bool x665_339 ∧ Aside0 (laws_FnStepsWornOfAll.j12 kq l3 a11 t385 t401 t402 x665_339 = some r) ∧ Aside0 (kq ≤ kj323) ∧ Aside0 (Kd.R (Kd.int .i64) 3 wc w.heap.size (fun k_ => (w.heap.size ≤ k_)) v403 t401) ∧ Aside0 (Below w.heap.size w wc))
   case first =>
    have H := HC340.out
    clear HC340
    by_cases c342 : t434 = true
    ·subst c342
     have H1 : ((laws_wSame.f kj323 t433 l3).bind fun t437 => (laws_FnStepsWornOfAll.j12 kj323 l3 a11 t385 t401 t402 (!t437))) = some r := by rw [if_pos rfl] at H; exact H
     clear H
     have H := H1
     clear H1
     replace H := Option.bind_eq_some_iff.mp H
     obtain ⟨t437, A3430, H⟩ := H
     try dsimp only at H
     have A343 := Aside0.mk A3430
     clear A3430
     have H' := Aside0.mk H
     clear H
     obtain ⟨Ao344, co344, eo344⟩ := Kd.R_slice HO436.out
     subst eo344
     go_wp2_with (first | (go_at_call 10; (with_reducible refine (laws_wSame.calls kj323 _ _ t433 _ _ l3 t437 _ ?side1 ?side2 ?side3 ?side4 A343.out).mono ?_); (case side1 => exact CS (Kd.R_reads' HO436.out).2.2); (case side2 => exact (Kd.R_reads' HO436.out).2.1); (case side3 => exact CS (Kd.C_below HR3.out HB.out)); (case side4 => exact HC3.out); rintro e w' ⟨rfl, ⟨nd, rfl⟩⟩))
     go_meet
     case rel => exact ⟨_, (!t437), Za, H', ⟨by have := HJ12.out; have := HJ26.out; have := HJ74.out; have := HJ131.out; have := HJ266.out; have := HJ306.out; have := HJ323.out; first | omega | exact Nat.le_refl _⟩, ⟨RS (Kd.R_mono HO_73.out (fun _ hk => hk.1))⟩, ⟨BS HB.out⟩⟩
    ·replace c342 := Bool.eq_false_iff.mpr c342
     subst c342
     have H1 : (laws_FnStepsWornOfAll.j12 kj323 l3 a11 t385 t401 t402 true) = some r := by rw [if_neg (show ¬ (false = true) by decide)] at H; exact H
     clear H
     have H := H1
     clear H1
     have H' := Aside0.mk H
     clear H
     go_wp2
     go_meet
     case rel => exact ⟨_, (true), Za, H', ⟨by have := HJ12.out; have := HJ26.out; have := HJ74.out; have := HJ131.out; have := HJ266.out; have := HJ306.out; have := HJ323.out; first | omega | exact Nat.le_refl _⟩, ⟨RS (Kd.R_mono HO_73.out (fun _ hk => hk.1))⟩, ⟨BS HB.out⟩⟩
   case rest =>
    clear HC340
    (try clear c338); (try clear c342)
    obtain ⟨kq, x665_339, rfl, HA, HJ339, HO_73, HB⟩ := hcut
    cases kq with
    | zero => exact absurd HA.out (by simp [laws_FnStepsWornOfAll.j12])
    | succ kj339 =>
     have H := HA.out
     clear HA
     simp only [laws_FnStepsWornOfAll.j12] at H
     by_cases c345 : x665_339 = true
     ·subst c345
      have H1 : (some false) = some r := by rw [if_pos rfl] at H; exact H
      clear H
      have H := H1
      clear H1
      obtain rfl := Option.some.inj H
      go_wp2
      go_ret
      exact ⟨Zb, BS HB.out⟩
     ·replace c345 := Bool.eq_false_iff.mpr c345
      subst c345
      have H1 : (laws_FnStepsWornOfAll.l3 kj339 l3 a11 t385 t401 t402 l3 (l3.length : Int) 0) = some r := by rw [if_neg (show ¬ (false = true) by decide)] at H; exact H
      clear H
      have H := H1
      clear H1
      have H' := Aside0.mk H
      clear H
      go_wp2
      go_loopg [668] kj339 (fun kq v668 w' => ∃ (x668_9 : Int), v668 = .int .i64 x668_9 ∧ Aside0 (laws_FnStepsWornOfAll.l3 kq l3 a11 t385 t401 t402 l3 (l3.length : Int) x668_9 = some r) ∧ Aside0 (kq ≤ kj339) ∧ Aside0 (Kd.R (Kd.int .i64) 3 w' w.heap.size (fun k_ => (w.heap.size ≤ k_)) v403 t401) ∧ Aside0 (Below w.heap.size w w'))
      case atStart => exact ⟨(0), Za, H', ⟨Nat.le_refl _⟩, ⟨RS HO_73.out⟩, ⟨BS HB.out⟩⟩
      case round =>
       clear H'
       (try clear c345)
       obtain ⟨x668_9, rfl, HA, HK9, HO_73, HB⟩ := hrel
       cases gk with
       | zero => exact absurd HA.out (by simp [laws_FnStepsWornOfAll.l3])
       | succ k9 =>
        have H := HA.out
        clear HA
        simp only [laws_FnStepsWornOfAll.l3] at H
        by_cases c346 : x668_9 < (l3.length : Int)
        ·rw [if_pos c346] at H
         have c346b0 : decide (x668_9 < (l3.length : Int)) = true := decide_eq_true c346
         clear c346
         by_cases c347 : 0 ≤ x668_9
         ·rw [if_pos c347] at H
          have c347b0 : decide (0 ≤ x668_9) = true := decide_eq_true c347
          clear c347
          by_cases c348 : x668_9 < (l3.length : Int)
          ·rw [if_pos c348] at H
           have c348b0 : decide (x668_9 < (l3.length : Int)) = true := decide_eq_true c348
           clear c348
           obtain ⟨ji349, hji349⟩ : ∃ j_ : Int, (wrap64 (t385 - 1)) = j_ := ⟨_, rfl⟩
           replace H : (if 0 ≤ (ji349) then (if (ji349) < (l3.length : Int) then (if (rd l3 x668_9) > (rd l3 (ji349)) then (some false) else (if (rd l3 x668_9) = (rd l3 (ji349)) then (if (wrap64 (x668_9 + 1)) < t385 then (some false) else (laws_FnStepsWornOfAll.l3 k9 l3 a11 t385 t401 t402 l3 (l3.length : Int) (wrap64 (x668_9 + 1)))) else (laws_FnStepsWornOfAll.l3 k9 l3 a11 t385 t401 t402 l3 (l3.length : Int) (wrap64 (x668_9 + 1))))) else (none)) else (none)) = some r := by first | (rw [hji349] at H; exact H) | (simp only [hji349] at H ⊢; exact H)
           have hji349w : (IntKind.i64.wrap (t385 - 1)) = ji349 := (i64_w _).trans hji349
           by_cases c350 : 0 ≤ (ji349)
           ·rw [if_pos c350] at H
            have c350b0 : decide (0 ≤ (ji349)) = true := decide_eq_true c350
            clear c350
            by_cases c351 : (ji349) < (l3.length : Int)
            ·rw [if_pos c351] at H
             have c351b0 : decide ((ji349) < (l3.length : Int)) = true := decide_eq_true c351
             clear c351
             by_cases c352 : (rd l3 x668_9) > (rd l3 (ji349))
             ·rw [if_pos c352] at H
              have c352b0 : decide ((rd l3 (ji349)) < (rd l3 x668_9)) = true := decide_eq_true c352
              clear c352
              obtain rfl := Option.some.inj H
              have p438 : 0 ≤ (x668_9 : Int) := OD
              have q438 : x668_9 < (l3.length : Int) := OD
              obtain ⟨ad438, e438, hx438_0⟩ := Kd.at_int HR3.out x668_9 p438 q438
              cases e438
              replace hx438_0 := (HB.out.cell (World.block_lt_of_cell? w _ hx438_0)).trans hx438_0
              replace p438 := eq_true p438
              replace q438 := eq_true q438
              have p439 : 0 ≤ ((ji349) : Int) := OD
              have q439 : (ji349) < (l3.length : Int) := OD
              obtain ⟨ad439, e439, hx439_0⟩ := Kd.at_int HR3.out (ji349) p439 q439
              obtain rfl : ad438 = ad439 := (by injection e439)
              replace hx439_0 := (HB.out.cell (World.block_lt_of_cell? w _ hx439_0)).trans hx439_0
              replace p439 := eq_true p439
              replace q439 := eq_true q439
              go_wp2
              go_ret
              exact ⟨by first | rfl | (simp [errW_none, errW_some] <;> rfl) | (simp only [← hji349]; first | rfl | (simp [errW_none, errW_some] <;> rfl)) | (simp [*, errW_none, errW_some] <;> rfl), BS HB.out⟩
             ·rw [if_neg c352] at H
              have c352b0 : decide ((rd l3 (ji349)) < (rd l3 x668_9)) = false := decide_eq_false c352
              clear c352
              by_cases c353 : (rd l3 x668_9) = (rd l3 (ji349))
              ·rw [if_pos c353] at H
               have c353b0 : ((rd l3 x668_9) == (rd l3 (ji349))) = true := beq_iff_eq.mpr c353
               have c353b1 : ((rd l3 x668_9) != (rd l3 (ji349))) = false := bne_eq_false_iff_eq.mpr c353
               clear c353
               by_cases c354 : (wrap64 (x668_9 + 1)) < t385
               ·rw [if_pos c354] at H
                have c354b0 : decide ((wrap64 (x668_9 + 1)) < t385) = true := decide_eq_true c354
                clear c354
                obtain rfl := Option.some.inj H
                have p438 : 0 ≤ (x668_9 : Int) := OD
                have q438 : x668_9 < (l3.length : Int) := OD
                obtain ⟨ad438, e438, hx438_0⟩ := Kd.at_int HR3.out x668_9 p438 q438
                cases e438
                replace hx438_0 := (HB.out.cell (World.block_lt_of_cell? w _ hx438_0)).trans hx438_0
                replace p438 := eq_true p438
                replace q438 := eq_true q438
                have p439 : 0 ≤ ((ji349) : Int) := OD
                have q439 : (ji349) < (l3.length : Int) := OD
                obtain ⟨ad439, e439, hx439_0⟩ := Kd.at_int HR3.out (ji349) p439 q439
                obtain rfl : ad438 = ad439 := (by injection e439)
                replace hx439_0 := (HB.out.cell (World.block_lt_of_cell? w _ hx439_0)).trans hx439_0
                replace p439 := eq_true p439
                replace q439 := eq_true q439
                have p440 : 0 ≤ ((ji349) : Int) := OD
                have q440 : (ji349) < (l3.length : Int) := OD
                obtain ⟨ad440, e440, hx440_0⟩ := Kd.at_int HR3.out (ji349) p440 q440
                obtain rfl : ad438 = ad440 := (by injection e440)
                replace hx440_0 := (HB.out.cell (World.block_lt_of_cell? w _ hx440_0)).trans hx440_0
                replace p440 := eq_true p440
                replace q440 := eq_true q440
                go_wp2
                go_ret
                exact ⟨by first | rfl | (simp [errW_none, errW_some] <;> rfl) | (simp only [← hji349]; first | rfl | (simp [errW_none, errW_some] <;> rfl)) | (simp [*, errW_none, errW_some] <;> rfl), BS HB.out⟩
               ·rw [if_neg c354] at H
                have c354b0 : decide ((wrap64 (x668_9 + 1)) < t385) = false := decide_eq_false c354
                clear c354
                have H' := Aside0.mk H
                clear H
                have p438 : 0 ≤ (x668_9 : Int) := OD
                have q438 : x668_9 < (l3.length : Int) := OD
                obtain ⟨ad438, e438, hx438_0⟩ := Kd.at_int HR3.out x668_9 p438 q438
                cases e438
                replace hx438_0 := (HB.out.cell (World.block_lt_of_cell? w _ hx438_0)).trans hx438_0
                replace p438 := eq_true p438
                replace q438 := eq_true q438
                have p439 : 0 ≤ ((ji349) : Int) := OD
                have q439 : (ji349) < (l3.length : Int) := OD
                obtain ⟨ad439, e439, hx439_0⟩ := Kd.at_int HR3.out (ji349) p439 q439
                obtain rfl : ad438 = ad439 := (by injection e439)
                replace hx439_0 := (HB.out.cell (World.block_lt_of_cell? w _ hx439_0)).trans hx439_0
                replace p439 := eq_true p439
                replace q439 := eq_true q439
                have p440 : 0 ≤ ((ji349) : Int) := OD
                have q440 : (ji349) < (l3.length : Int) := OD
                obtain ⟨ad440, e440, hx440_0⟩ := Kd.at_int HR3.out (ji349) p440 q440
                obtain rfl : ad438 = ad440 := (by injection e440)
                replace hx440_0 := (HB.out.cell (World.block_lt_of_cell? w _ hx440_0)).trans hx440_0
                replace p440 := eq_true p440
                replace q440 := eq_true q440
                go_wp2
                go_roundg k9
                case measure => have := HJ12.out; have := HJ26.out; have := HJ74.out; have := HJ131.out; have := HJ266.out; have := HJ306.out; have := HJ323.out; have := HJ339.out; have := HK9.out; omega
                case rel => exact ⟨(wrap64 (x668_9 + 1)), Za, H', ⟨by have := HJ12.out; have := HJ26.out; have := HJ74.out; have := HJ131.out; have := HJ266.out; have := HJ306.out; have := HJ323.out; have := HJ339.out; have := HK9.out; omega⟩, ⟨RS HO_73.out⟩, ⟨BS HB.out⟩⟩
              ·rw [if_neg c353] at H
               have c353b0 : ((rd l3 x668_9) == (rd l3 (ji349))) = false := beq_eq_false_iff_ne.mpr c353
               have c353b1 : ((rd l3 x668_9) != (rd l3 (ji349))) = true := bne_iff_ne.mpr c353
               have H' := Aside0.mk H
               clear H
               have p438 : 0 ≤ (x668_9 : Int) := OD
               have q438 : x668_9 < (l3.length : Int) := OD
               obtain ⟨ad438, e438, hx438_0⟩ := Kd.at_int HR3.out x668_9 p438 q438
               cases e438
               replace hx438_0 := (HB.out.cell (World.block_lt_of_cell? w _ hx438_0)).trans hx438_0
               replace p438 := eq_true p438
               replace q438 := eq_true q438
               have p439 : 0 ≤ ((ji349) : Int) := OD
               have q439 : (ji349) < (l3.length : Int) := OD
               obtain ⟨ad439, e439, hx439_0⟩ := Kd.at_int HR3.out (ji349) p439 q439
               obtain rfl : ad438 = ad439 := (by injection e439)
               replace hx439_0 := (HB.out.cell (World.block_lt_of_cell? w _ hx439_0)).trans hx439_0
               replace p439 := eq_true p439
               replace q439 := eq_true q439
               have p440 : 0 ≤ ((ji349) : Int) := OD
               have q440 : (ji349) < (l3.length : Int) := OD
               obtain ⟨ad440, e440, hx440_0⟩ := Kd.at_int HR3.out (ji349) p440 q440
               obtain rfl : ad438 = ad440 := (by injection e440)
               replace hx440_0 := (HB.out.cell (World.block_lt_of_cell? w _ hx440_0)).trans hx440_0
               replace p440 := eq_true p440
               replace q440 := eq_true q440
               go_wp2
               go_roundg k9
               case measure => have := HJ12.out; have := HJ26.out; have := HJ74.out; have := HJ131.out; have := HJ266.out; have := HJ306.out; have := HJ323.out; have := HJ339.out; have := HK9.out; omega
               case rel => exact ⟨(wrap64 (x668_9 + 1)), Za, H', ⟨by have := HJ12.out; have := HJ26.out; have := HJ74.out; have := HJ131.out; have := HJ266.out; have := HJ306.out; have := HJ323.out; have := HJ339.out; have := HK9.out; omega⟩, ⟨RS HO_73.out⟩, ⟨BS HB.out⟩⟩
            ·rw [if_neg c351] at H
             exact absurd H (by simp)
           ·rw [if_neg c350] at H
            exact absurd H (by simp)
          ·rw [if_neg c348] at H
           exact absurd H (by simp)
         ·rw [if_neg c347] at H
          exact absurd H (by simp)
        ·rw [if_neg c346] at H
         have c346b0 : decide (x668_9 < (l3.length : Int)) = false := decide_eq_false c346
         clear c346
         by_cases c355 : t402 = true
         ·subst c355
          have H1 : ((impl_BearsText.f k9 t401).bind fun bt441 => (if bt441.2 = true then (some (bt441.1.toList == a11.toList)) else (some false))) = some r := by rw [if_pos rfl] at H; exact H
          clear H
          have H := H1
          clear H1
          replace H := Option.bind_eq_some_iff.mp H
          obtain ⟨⟨t441, t442⟩, A3560, H⟩ := H
          try dsimp only at H
          have A356 := Aside0.mk A3560
          clear A3560
          by_cases c357 : t442 = true
          ·subst c357
           have H1 : (some (t441.toList == a11.toList)) = some r := by rw [if_pos rfl] at H; exact H
           clear H
           have H := H1
           clear H1
           obtain rfl := Option.some.inj H
           obtain ⟨Ao358, co358, eo358⟩ := Kd.R_slice HO_73.out
           subst eo358
           go_wp2_with (first | ((with_reducible refine gate_callee (f := 25) rfl ?_); refine goesL_ (some 699) rfl rfl Tryz.func25 (by kernel_rfl) rfl #[.slice Ao358 t401.length co358] rfl Zc ?_; (with_reducible refine (impl_BearsText.calls k9 _ _ t401 t441 true _ ?side1 ?side2 ?side3 A356.out).mono ?_); (case side1 => exact CS (Kd.R_reads' HO_73.out).2.2); (case side2 => exact (Kd.R_reads' HO_73.out).2.1); (case side3 => exact TBB.below htb (BS HB.out)); rintro e w359 ⟨rfl, hb⟩; refine ⟨_, rfl, ?_⟩; have n0_ := Aside0.mk (Kd.R_below (RS HO_73.out) hb); have n1_ := Aside0.mk (below_step (BS HB.out) hb); clear HO_73; clear HB; have HO_73 := n0_; have HB := n1_; clear n0_ n1_; (try clear hb); (try clear hb2); (try clear hk); (try clear hi)))
           go_ret
           exact ⟨Zb, BS HB.out⟩
          ·replace c357 := Bool.eq_false_iff.mpr c357
           subst c357
           have H1 : (some false) = some r := by rw [if_neg (show ¬ (false = true) by decide)] at H; exact H
           clear H
           have H := H1
           clear H1
           obtain rfl := Option.some.inj H
           obtain ⟨Ao360, co360, eo360⟩ := Kd.R_slice HO_73.out
           subst eo360
           go_wp2_with (first | ((with_reducible refine gate_callee (f := 25) rfl ?_); refine goesL_ (some 699) rfl rfl Tryz.func25 (by kernel_rfl) rfl #[.slice Ao360 t401.length co360] rfl Zc ?_; (with_reducible refine (impl_BearsText.calls k9 _ _ t401 t441 false _ ?side1 ?side2 ?side3 A356.out).mono ?_); (case side1 => exact CS (Kd.R_reads' HO_73.out).2.2); (case side2 => exact (Kd.R_reads' HO_73.out).2.1); (case side3 => exact TBB.below htb (BS HB.out)); rintro e w361 ⟨rfl, hb⟩; refine ⟨_, rfl, ?_⟩; have n0_ := Aside0.mk (Kd.R_below (RS HO_73.out) hb); have n1_ := Aside0.mk (below_step (BS HB.out) hb); clear HO_73; clear HB; have HO_73 := n0_; have HB := n1_; clear n0_ n1_; (try clear hb); (try clear hb2); (try clear hk); (try clear hi)))
           go_ret
           exact ⟨Zb, BS HB.out⟩
         ·replace c355 := Bool.eq_false_iff.mpr c355
          subst c355
          have H1 : (some true) = some r := by rw [if_neg (show ¬ (false = true) by decide)] at H; exact H
          clear H
          have H := H1
          clear H1
          obtain rfl := Option.some.inj H
          go_wp2
          go_ret
          exact ⟨Zb, BS HB.out⟩
  ·replace c338 := Bool.eq_false_iff.mpr c338
   subst c338
   have H1 : (if t402 = true then ((impl_BearsText.f kj323 t401).bind fun bt443 => (if bt443.2 = true then (some (bt443.1.toList == a11.toList)) else (some false))) else (some true)) = some r := by rw [if_neg (show ¬ (false = true) by decide)] at H; exact H
   clear H
   have H := H1
   clear H1
   by_cases c362 : t402 = true
   ·subst c362
    have H1 : ((impl_BearsText.f kj323 t401).bind fun bt443 => (if bt443.2 = true then (some (bt443.1.toList == a11.toList)) else (some false))) = some r := by rw [if_pos rfl] at H; exact H
    clear H
    have H := H1
    clear H1
    replace H := Option.bind_eq_some_iff.mp H
    obtain ⟨⟨t443, t444⟩, A3630, H⟩ := H
    try dsimp only at H
    have A363 := Aside0.mk A3630
    clear A3630
    by_cases c364 : t444 = true
    ·subst c364
     have H1 : (some (t443.toList == a11.toList)) = some r := by rw [if_pos rfl] at H; exact H
     clear H
     have H := H1
     clear H1
     obtain rfl := Option.some.inj H
     obtain ⟨Ao365, co365, eo365⟩ := Kd.R_slice HO_73.out
     subst eo365
     go_wp2_with (first | ((with_reducible refine gate_callee (f := 25) rfl ?_); refine goesL_ (some 699) rfl rfl Tryz.func25 (by kernel_rfl) rfl #[.slice Ao365 t401.length co365] rfl Zc ?_; (with_reducible refine (impl_BearsText.calls kj323 _ _ t401 t443 true _ ?side1 ?side2 ?side3 A363.out).mono ?_); (case side1 => exact CS (Kd.R_reads' HO_73.out).2.2); (case side2 => exact (Kd.R_reads' HO_73.out).2.1); (case side3 => exact TBB.below htb (BS HB.out)); rintro e w366 ⟨rfl, hb⟩; refine ⟨_, rfl, ?_⟩; have n0_ := Aside0.mk (Kd.R_below (RS HO_73.out) hb); have n1_ := Aside0.mk (below_step (BS HB.out) hb); clear HO_73; clear HB; have HO_73 := n0_; have HB := n1_; clear n0_ n1_; (try clear hb); (try clear hb2); (try clear hk); (try clear hi)))
     go_ret
     exact ⟨Zb, BS HB.out⟩
    ·replace c364 := Bool.eq_false_iff.mpr c364
     subst c364
     have H1 : (some false) = some r := by rw [if_neg (show ¬ (false = true) by decide)] at H; exact H
     clear H
     have H := H1
     clear H1
     obtain rfl := Option.some.inj H
     obtain ⟨Ao367, co367, eo367⟩ := Kd.R_slice HO_73.out
     subst eo367
     go_wp2_with (first | ((with_reducible refine gate_callee (f := 25) rfl ?_); refine goesL_ (some 699) rfl rfl Tryz.func25 (by kernel_rfl) rfl #[.slice Ao367 t401.length co367] rfl Zc ?_; (with_reducible refine (impl_BearsText.calls kj323 _ _ t401 t443 false _ ?side1 ?side2 ?side3 A363.out).mono ?_); (case side1 => exact CS (Kd.R_reads' HO_73.out).2.2); (case side2 => exact (Kd.R_reads' HO_73.out).2.1); (case side3 => exact TBB.below htb (BS HB.out)); rintro e w368 ⟨rfl, hb⟩; refine ⟨_, rfl, ?_⟩; have n0_ := Aside0.mk (Kd.R_below (RS HO_73.out) hb); have n1_ := Aside0.mk (below_step (BS HB.out) hb); clear HO_73; clear HB; have HO_73 := n0_; have HB := n1_; clear n0_ n1_; (try clear hb); (try clear hb2); (try clear hk); (try clear hi)))
     go_ret
     exact ⟨Zb, BS HB.out⟩
   ·replace c362 := Bool.eq_false_iff.mpr c362
    subst c362
    have H1 : (some true) = some r := by rw [if_neg (show ¬ (false = true) by decide)] at H; exact H
    clear H
    have H := H1
    clear H1
    obtain rfl := Option.some.inj H
    go_wp2
    go_ret
    exact ⟨Zb, BS HB.out⟩

end Go.Proofs.YtmonnbbihmpedaaGreatDoor.PFnStepsWornOfAll
