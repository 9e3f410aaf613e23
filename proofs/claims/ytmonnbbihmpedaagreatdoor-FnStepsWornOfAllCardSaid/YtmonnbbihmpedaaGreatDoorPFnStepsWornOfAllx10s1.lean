-- Written by wip/gen/mp.py of this repo (the kit's printer with our own parts): functions and their contracts.
import Derived.Test.YtmonnbbihmpedaaGreatDoorPFnStepsWornOfAllx10s2
namespace Go.Proofs.YtmonnbbihmpedaaGreatDoor.PFnStepsWornOfAll
open Go.RowKit Go.Proofs.YtmonnbbihmpedaaGreatDoorW.PrintWords Go.Proofs.YtmonnbbihmpedaaGreatDoorW.PrintLast Go.Proofs.YtmonnbbihmpedaaGreatDoorW.PrintMore
attribute [local go_sem] yielded_undef max2_int min2_int max_two min_two max_three min_three max_four min_four   -- for this text's walks alone
set_option linter.unusedVariables false
set_option linter.unusedSimpArgs false

/-! ### laws_FnStepsWornOfAll: function 3 -/
set_option maxHeartbeats 8000000 in
set_option maxRecDepth 100000 in
theorem laws_FnStepsWornOfAll.stage1 (k c0 c2 c3 c5 c7 c8 kj12 : Nat) (A0 A2 A3 A5 A7 A8 : Option Addr) (l0 l2 l3 l5 l8 t324 t328 : List Int) (a1 a4 a6 a9 a10 t336 t338 : Int) (P5_ : Nat → Prop) (l7 : List (List Int)) (a11 : ByteArray) (r t327 t329 t332 t333 t334 t335 t337 t339 : Bool) (w w31 wc : World) (ba bb bc bd be bf bg bh bi bj bk bl bm bn bo bp bq br bs bt bu bv bw bx bz b0 b1 b2 b3 b4 b5 b6 v325 v330 b7 b8 b9 bA bB bC bD bE bF bG bH bI bJ bK bL bM bN bO bP bQ bR bS bT bU bV bW bX bY bZ da db dc dd de df dg dh di dj dk dl dm dn dp dq dr ds dt du dv dw dx dy dz d0 d1 d2 d3 d4 d5 d6 d7 d8 d9 dA dB dC dD dE dF dG dH dI dJ dK dL dM dN dO dP dQ dR dS dT dU dV dW dX dY dZ ea eb ec ed ee ef eg eh ei ej ek el em en : Value) (htb : TBB w) (HR0 : Aside0 ((Kd.int IntKind.i64).C w A0 l0.length l0)) (HR2 : Aside0 ((Kd.int IntKind.i64).C w A2 l2.length l2)) (HC2 : Aside0 (l2.length ≤ c2)) (HR3 : Aside0 ((Kd.int IntKind.i64).C w A3 l3.length l3)) (HC3 : Aside0 (l3.length ≤ c3)) (HR7 : Aside0 ((Kd.slice 3 (Kd.int IntKind.i64)).C w A7 l7.length l7)) (HC7 : Aside0 (l7.length ≤ c7)) (HR8 : Aside0 ((Kd.int IntKind.i64).C w A8 l8.length l8)) (HC8 : Aside0 (l8.length ≤ c8)) (HJ12 : Aside0 (kj12 + 1 ≤ k)) (HC27 : Aside0 ((if (t327 != t329) = true then j1 kj12 l0 a1 l2 l3 a4 l5 a6 l7 l8 a9 a10 a11 t324 t327 t336 t337 true else (laws_wSame.f kj12 t324 t328).bind fun (t340 : Bool) => if t340 = true then if (t333 != t335) = true then j1 kj12 l0 a1 l2 l3 a4 l5 a6 l7 l8 a9 a10 a11 t324 t327 t336 t337 true else if (t332 != t334) = true then j1 kj12 l0 a1 l2 l3 a4 l5 a6 l7 l8 a9 a10 a11 t324 t327 t336 t337 true else if (t337 != t339) = true then j1 kj12 l0 a1 l2 l3 a4 l5 a6 l7 l8 a9 a10 a11 t324 t327 t336 t337 true else if t336 = t338 then if t333 = true then if (t327 != t332) = true then j1 kj12 l0 a1 l2 l3 a4 l5 a6 l7 l8 a9 a10 a11 t324 t327 t336 t337 true else (impl_AreBears.f kj12 l0).bind fun (t341 : Bool) => if t341 = true then (impl_AreBears.f kj12 l0).bind fun (t342 : Bool) => (spec_AreBears.f kj12 l0).bind fun (t343 : Bool) => if (t342 != t343) = true then j1 kj12 l0 a1 l2 l3 a4 l5 a6 l7 l8 a9 a10 a11 t324 t327 t336 t337 true else j1 kj12 l0 a1 l2 l3 a4 l5 a6 l7 l8 a9 a10 a11 t324 t327 t336 t337 (t337 != decide (a1 ≤ (↑l0.length : Int))) else j1 kj12 l0 a1 l2 l3 a4 l5 a6 l7 l8 a9 a10 a11 t324 t327 t336 t337 true else if (t327 != false) = true then j1 kj12 l0 a1 l2 l3 a4 l5 a6 l7 l8 a9 a10 a11 t324 t327 t336 t337 true else (impl_AreBears.f kj12 l0).bind fun (t344 : Bool) => (spec_AreBears.f kj12 l0).bind fun (t345 : Bool) => if (t344 != t345) = true then j1 kj12 l0 a1 l2 l3 a4 l5 a6 l7 l8 a9 a10 a11 t324 t327 t336 t337 true else j1 kj12 l0 a1 l2 l3 a4 l5 a6 l7 l8 a9 a10 a11 t324 t327 t336 t337 (t337 != false) else j1 kj12 l0 a1 l2 l3 a4 l5 a6 l7 l8 a9 a10 a11 t324 t327 t336 t337 true else j1 kj12 l0 a1 l2 l3 a4 l5 a6 l7 l8 a9 a10 a11 t324 t327 t336 t337 true) = some r)) (HO_5 : Aside0 ((Kd.int IntKind.i64).V 3 w31 w.heap.size (fun (k : Nat) => ((P5_ k ∨ w.heap.size ≤ k) ∧ some k ≠ v325.ownBlock) ∧ some k ≠ v330.ownBlock) (Value.slice A5 l5.length c5) l5)) (HB : Aside0 (Below w.heap.size w w31)) (hcut : ∃ (kq : Nat), ∃ (x231_26 : Bool), d8 = Value.bool x231_26 ∧ Aside0 (j1 kq l0 a1 l2 l3 a4 l5 a6 l7 l8 a9 a10 a11 t324 t327 t336 t337 x231_26 = some r) ∧ Aside0 (kq ≤ kj12) ∧ Aside0 ((Kd.int IntKind.i64).V 3 wc w.heap.size (fun (k_ : Nat) => (P5_ k_ ∨ w.heap.size ≤ k_) ∧ some k_ ≠ v325.ownBlock) (Value.slice A5 l5.length c5) l5) ∧ Aside0 ((Kd.int IntKind.i64).R 3 wc w.heap.size (fun (k_ : Nat) => w.heap.size ≤ k_) v325 t324) ∧ Aside0 (Below w.heap.size w wc)) (K1_ : Act → World → Prop) (hK1_ : ∀ (a_ : Act) (w_ : World), Code.wp Tryz.prog (second_ (second_ (second_ (second_ (second_ (second_ (second_ (second_ (second_ (body_ Tryz.f3)))))))))) (bodyPost Tryz.prog Tryz.f3 (fun e w' => e = .returned (.bool r) ∧ Below w.heap.size w w')) a_ w_ → K1_ a_ w_) : Code.wp Tryz.prog (second_ (first_ (second_ (second_ (second_ (second_ (second_ (second_ (second_ (second_ (body_ Tryz.f3))))))))))) (Exit.then K1_ (bodyPost Tryz.prog Tryz.f3 (fun e w' => e = .returned (.bool r) ∧ Below w.heap.size w w'))) { tmps := #[.slice A0 l0.length c0, .int .i64 a1, .slice A2 l2.length c2, .slice A3 l3.length c3, .int .i64 a4, .slice A5 l5.length c5, .int .i64 a6, .slice A7 l7.length c7, .slice A8 l8.length c8, .int .i64 a9, .int .i64 a10, .string a11, undef, undef, undef, undef, undef, undef, undef, undef, undef, undef, undef, undef, .bool false, v325, .bool t327, v330, .bool t329, .bool t332, .bool t333, .bool t334, .bool t335, .int .i64 t336, .bool t337, .int .i64 t338, .bool t339, undef, undef, undef, undef, undef, undef, undef, undef, undef, undef, undef, undef, undef, undef, undef, undef, undef, undef, undef, undef, undef, undef, undef, undef, undef, undef, undef, undef, undef, undef, undef, undef, undef, undef, undef, undef, undef, undef, undef, undef, undef, undef, undef, undef, undef, undef, undef, undef, undef, undef, undef, undef, undef, undef, undef, undef, undef, undef, undef, ba, bb, bc, bd, be, bf, bg, bh, bi, bj, bk, bl, bm, bn, bo, bp, bq, br, bs, bt, bu, bv, bw, bx, bz, b0, b1, b2, b3, b4, b5, b6, d9, dA, dB, dC, dD, dE, dF, dG, dH, dI, dJ, dK, dL, dM, dN, dO, dP, dQ, dR, dS, dT, dU, dV, dW, dX, dY, dZ, ea, eb, ec, ed, ee, ef, eg, eh, ei, ej, ek, el, em, en, b7, b8, b9, bA, bB, bC, bD, bE, bF, bG, bH, bI, bJ, bK, bL, bM, bN, bO, bP, bQ, bR, bS, bT, bU, bV, bW, bX, bY, bZ, da, db, dc, dd, de, df, dg, dh, di, dj, dk, dl, dm, dn, dp, dq, dr, ds, dt, du, dv, dw, dx, dy, dz, d0, d1, d2, d3, d4, d5, d6, d7, d8, undef, undef, undef, undef, undef, undef, undef, undef, undef, undef, undef, undef, undef, undef, undef, undef, undef, undef, undef, undef, undef, undef, undef, undef, undef, undef, undef, undef, undef, undef, undef, undef, undef, undef, undef, undef, undef, undef, undef, undef, undef, undef, undef, undef, undef, undef, undef, undef, undef, undef, undef, undef, undef, undef, undef, undef, undef, undef, undef, undef, undef, undef, undef, undef, undef, undef, undef, undef, undef, undef, undef, undef, undef, undef, undef, undef, undef, undef, undef, undef, undef, undef, undef, undef, undef, undef, undef, undef, undef, undef, undef, undef, undef, undef, undef, undef, undef, undef, undef, undef, undef, undef, undef, undef, undef, undef, undef, undef, undef, undef, undef, undef, undef, undef, undef, undef, undef, undef, undef, undef, undef, undef, undef, undef, undef, undef, undef, undef, undef, undef, undef, undef, undef, undef, undef, undef, undef, undef, undef, undef, undef, undef, undef, undef, undef, undef, undef, undef, undef, undef, undef, undef, undef, undef, undef, undef, undef, undef, undef, undef, undef, undef, undef, undef, undef, undef, undef, undef, undef, undef, undef, undef, undef, undef, undef, undef, undef, undef, undef, undef, undef, undef, undef, undef, undef, undef, undef, undef, undef, undef, undef, undef, undef, undef, undef, undef, undef, undef, undef, undef, undef, undef, undef, undef, undef, undef, undef, undef, undef, undef, undef, undef, undef, undef, undef, undef, undef, undef, undef, undef, undef, undef, undef, undef, undef, undef, undef, undef, undef, undef, undef, undef, undef, undef, undef, undef, undef, undef, undef, undef, undef, undef, undef, undef, undef, undef, undef, undef, undef, undef, undef, undef, undef, undef, undef, undef, undef, undef, undef, undef, undef, undef, undef, undef, undef, undef, undef, undef, undef, undef, undef, undef, undef, undef, undef, undef, undef, undef, undef, undef, undef, undef, undef, undef, undef, undef, undef, undef, undef, undef, undef, undef, undef, undef, undef, undef, undef, undef, undef, undef, undef, undef, undef, undef, undef, undef, undef, undef, undef, undef, undef, undef, undef, undef, undef, undef, undef, undef, undef, undef, undef, undef, undef, undef, undef, undef, undef, undef, undef, undef, undef, undef, undef, undef, undef, undef, undef, undef, undef, undef, undef, undef, undef, undef, undef, undef, undef, undef, undef, undef, undef, undef, undef, undef, undef, undef, undef, undef, undef, undef, undef, undef, undef, undef, undef, undef, undef, undef, undef, undef, undef, undef, undef, undef, undef, undef, undef, undef, undef, undef, undef, undef, undef, undef, undef, undef, undef, undef, undef, undef, undef, undef, undef, undef, undef, undef, undef, undef, undef, undef, undef, undef, undef, undef, undef, undef, undef, undef, undef, undef, undef, undef, undef, undef, undef, undef, undef, undef, undef, undef, undef, undef, undef, undef, undef, undef, undef, undef, undef, undef, undef, undef, undef, undef, undef, undef, undef, undef, undef, undef, undef, undef, undef, undef, undef, undef, undef, undef, undef, undef, undef, undef, undef, undef, undef, undef, undef, undef, undef, undef, undef, undef, undef, undef, undef, undef, undef, undef, undef, undef, undef, undef, undef, undef, undef, undef], defers := [] } wc := by
 dsimp only [second_, first_, body_, Tryz.f3] at hK1_ ⊢
 clear HC27
 (try clear c4); (try clear c6); (try clear c9); (try clear c20); (try clear c32); (try clear c32b0); (try clear c32b1); (try clear c32b2); (try clear c34); (try clear c35); (try clear c35b0); (try clear c35b1); (try clear c35b2); (try clear c38); (try clear c38b0); (try clear c38b1); (try clear c38b2); (try clear c41); (try clear c41b0); (try clear c41b1); (try clear c41b2); (try clear c44); (try clear c44b0); (try clear c44b1); (try clear c45); (try clear c46); (try clear c46b0); (try clear c46b1); (try clear c46b2); (try clear c50); (try clear c53); (try clear c53b0); (try clear c53b1); (try clear c53b2); (try clear c60); (try clear c60b0); (try clear c60b1); (try clear c60b2); (try clear c65); (try clear c65b0); (try clear c65b1); (try clear c65b2)
 obtain ⟨kq, x231_26, rfl, HA, HJ26, HO_5, HO_25, HB⟩ := hcut
 cases kq with
 | zero => exact absurd HA.out (by simp [laws_FnStepsWornOfAll.j1])
 | succ kj26 =>
  have H := HA.out
  clear HA
  simp only [laws_FnStepsWornOfAll.j1] at H
  by_cases c74 : x231_26 = true
  ·subst c74
   have H1 : (some false) = some r := by rw [if_pos rfl] at H; exact H
   clear H
   have H := H1
   clear H1
   obtain rfl := Option.some.inj H
   go_wp2
   go_ret
   exact ⟨Zb, BS HB.out⟩
  ·replace c74 := Bool.eq_false_iff.mpr c74
   subst c74
   have H1 : (if t327 = true then (if (t324.length : Int) = (l0.length : Int) then ((impl_AreBears.f kj26 t324).bind fun t346 => (if t346 = true then ((laws_wRises.f kj26 l2).bind fun t347 => (laws_FnStepsWornOfAll.j2 kj26 l0 a1 l2 l3 a4 l5 a6 l7 l8 a9 a10 a11 t324 t336 t337 (!t347))) else (laws_FnStepsWornOfAll.j2 kj26 l0 a1 l2 l3 a4 l5 a6 l7 l8 a9 a10 a11 t324 t336 t337 true))) else (laws_FnStepsWornOfAll.j2 kj26 l0 a1 l2 l3 a4 l5 a6 l7 l8 a9 a10 a11 t324 t336 t337 true)) else (laws_FnStepsWornOfAll.j4 kj26 l3 a4 l5 a6 l7 l8 a9 a10 a11)) = some r := by rw [if_neg (show ¬ (false = true) by decide)] at H; exact H
   clear H
   have H := H1
   clear H1
   have HC75 := Aside0.mk H
   clear H
   go_upto_if 232 with (fail)
   go_cut [] from 232 to 232 (fun wc => ∃ (kq : Nat), Aside0 (laws_FnStepsWornOfAll.j4 kq l3 a4 l5 a6 l7 l8 a9 a10 a11 = some r) ∧ Aside0 (kq ≤ kj26) ∧ Aside0 (Kd.V (Kd.int .i64) 3 wc w.heap.size (fun k_ => (P5_ k_ ∨ w.heap.size ≤ k_)) (.slice A5 l5.length c5) l5) ∧ Aside0 (Below w.heap.size w wc))
   case first =>
    have H := HC75.out
    clear HC75
    by_cases c76 : t327 = true
    ·subst c76
     have H1 : (if (t324.length : Int) = (l0.length : Int) then ((impl_AreBears.f kj26 t324).bind fun t346 => (if t346 = true then ((laws_wRises.f kj26 l2).bind fun t347 => (laws_FnStepsWornOfAll.j2 kj26 l0 a1 l2 l3 a4 l5 a6 l7 l8 a9 a10 a11 t324 t336 t337 (!t347))) else (laws_FnStepsWornOfAll.j2 kj26 l0 a1 l2 l3 a4 l5 a6 l7 l8 a9 a10 a11 t324 t336 t337 true))) else (laws_FnStepsWornOfAll.j2 kj26 l0 a1 l2 l3 a4 l5 a6 l7 l8 a9 a10 a11 t324 t336 t337 true)) = some r := by rw [if_pos rfl] at H; exact H
     clear H
     have H := H1
     clear H1
     have HC77 := Aside0.mk H
     clear H
     go_upto_region 12 with (fail)
     go_cut [247] from 247 to 247 (fun v247 wc => ∃ (kq : Nat) (x247_76 : Bool), v247 = .bool x247_76 ∧ Aside0 (laws_FnStepsWornOfAll.j2 kq l0 a1 l2 l3 a4 l5 a6 l7 l8 a9 a10 a11 t324 t336 t337 x247_76 = some r) ∧ Aside0 (kq ≤ kj26) ∧ Aside0 (Kd.V (Kd.int .i64) 3 wc w.heap.size (fun k_ => (P5_ k_ ∨ w.heap.size ≤ k_) ∧ some k_ ≠ (v325 : Value).ownBlock) (.slice A5 l5.length c5) l5) ∧ Aside0 (Kd.R (Kd.int .i64) 3 wc w.heap.size (fun k_ => (w.heap.size ≤ k_)) v325 t324) ∧ Aside0 (Below w.heap.size w wc))
     case first =>
      have H := HC77.out
      clear HC77
      by_cases c78 : (t324.length : Int) = (l0.length : Int)
      ·rw [if_pos c78] at H
       have c78b0 : ((t324.length : Int) == (l0.length : Int)) = true := beq_iff_eq.mpr c78
       have c78b1 : ((t324.length : Int) != (l0.length : Int)) = false := bne_eq_false_iff_eq.mpr c78
       have c78b2 : (t324.length == l0.length) = true := by first | simpa using c78 | (simp at c78 ⊢; omega)
       clear c78
       (first | rw [c78b0] | (simp only [i64_w, i32_w]; rw [c78b0]) | skip)
       replace H := Option.bind_eq_some_iff.mp H
       obtain ⟨t346, A790, H⟩ := H
       try dsimp only at H
       have A79 := Aside0.mk A790
       clear A790
       by_cases c80 : t346 = true
       ·subst c80
        have H1 : ((laws_wRises.f kj26 l2).bind fun t347 => (laws_FnStepsWornOfAll.j2 kj26 l0 a1 l2 l3 a4 l5 a6 l7 l8 a9 a10 a11 t324 t336 t337 (!t347))) = some r := by rw [if_pos rfl] at H; exact H
        clear H
        have H := H1
        clear H1
        replace H := Option.bind_eq_some_iff.mp H
        obtain ⟨t347, A810, H⟩ := H
        try dsimp only at H
        have A81 := Aside0.mk A810
        clear A810
        have H' := Aside0.mk H
        clear H
        obtain ⟨Ao82, co82, eo82⟩ := Kd.R_slice HO_25.out
        subst eo82
        go_wp2_with (first | (go_at_call 11; (with_reducible refine (impl_AreBears.calls kj26 _ _ t324 true _ ?side1 ?side2 A79.out).mono ?_); (case side1 => exact CS (Kd.R_reads' HO_25.out).2.2); (case side2 => exact (Kd.R_reads' HO_25.out).2.1); rintro e w' ⟨rfl, ⟨nd, rfl⟩⟩) | (go_at_call 13; (with_reducible refine (laws_wRises.calls kj26 _ _ l2 t347 _ ?side1 ?side2 A81.out).mono ?_); (case side1 => exact (Kd.C_below HR2.out (BS HB.out))); (case side2 => exact HC2.out); rintro e w' ⟨rfl, ⟨nd, rfl⟩⟩))
        go_meet
        case rel => exact ⟨_, (!t347), Za, H', ⟨by have := HJ12.out; have := HJ26.out; first | omega | exact Nat.le_refl _⟩, ⟨VS HO_5.out⟩, ⟨RS HO_25.out⟩, ⟨BS HB.out⟩⟩
       ·replace c80 := Bool.eq_false_iff.mpr c80
        subst c80
        have H1 : (laws_FnStepsWornOfAll.j2 kj26 l0 a1 l2 l3 a4 l5 a6 l7 l8 a9 a10 a11 t324 t336 t337 true) = some r := by rw [if_neg (show ¬ (false = true) by decide)] at H; exact H
        clear H
        have H := H1
        clear H1
        have H' := Aside0.mk H
        clear H
        obtain ⟨Ao83, co83, eo83⟩ := Kd.R_slice HO_25.out
        subst eo83
        go_wp2_with (first | (go_at_call 11; (with_reducible refine (impl_AreBears.calls kj26 _ _ t324 false _ ?side1 ?side2 A79.out).mono ?_); (case side1 => exact CS (Kd.R_reads' HO_25.out).2.2); (case side2 => exact (Kd.R_reads' HO_25.out).2.1); rintro e w' ⟨rfl, ⟨nd, rfl⟩⟩))
        go_meet
        case rel => exact ⟨_, (true), Za, H', ⟨by have := HJ12.out; have := HJ26.out; first | omega | exact Nat.le_refl _⟩, ⟨VS HO_5.out⟩, ⟨RS HO_25.out⟩, ⟨BS HB.out⟩⟩
      ·rw [if_neg c78] at H
       have c78b0 : ((t324.length : Int) == (l0.length : Int)) = false := beq_eq_false_iff_ne.mpr c78
       have c78b1 : ((t324.length : Int) != (l0.length : Int)) = true := bne_iff_ne.mpr c78
       have c78b2 : (t324.length == l0.length) = false := by first | simpa using c78 | (simp at c78 ⊢; omega)
       (first | rw [c78b0] | (simp only [i64_w, i32_w]; rw [c78b0]) | skip)
       have H' := Aside0.mk H
       clear H
       obtain ⟨Ao84, co84, eo84⟩ := Kd.R_slice HO_25.out
       subst eo84
       go_wp2
       go_meet
       case rel => exact ⟨_, (true), Za, H', ⟨by have := HJ12.out; have := HJ26.out; first | omega | exact Nat.le_refl _⟩, ⟨VS HO_5.out⟩, ⟨RS HO_25.out⟩, ⟨BS HB.out⟩⟩
     case rest =>
      clear HC77
      (try clear c74); (try clear c76); (try clear c78); (try clear c78b0); (try clear c78b1); (try clear c78b2); (try clear c80)
      obtain ⟨kq, x247_76, rfl, HA, HJ76, HO_5, HO_25, HB⟩ := hcut
      cases kq with
      | zero => exact absurd HA.out (by simp [laws_FnStepsWornOfAll.j2])
      | succ kj76 =>
       have H := HA.out
       clear HA
       simp only [laws_FnStepsWornOfAll.j2] at H
       by_cases c85 : x247_76 = true
       ·subst c85
        have H1 : (some false) = some r := by rw [if_pos rfl] at H; exact H
        clear H
        have H := H1
        clear H1
        obtain rfl := Option.some.inj H
        go_wp2
        go_ret
        exact ⟨Zb, BS HB.out⟩
       ·replace c85 := Bool.eq_false_iff.mpr c85
        subst c85
        have H1 : (laws_FnStepsWornOfAll.l0 kj76 a1 l2 l3 a4 l5 a6 l7 l8 a9 a10 a11 t324 t336 t337 l0 (l0.length : Int) 0) = some r := by rw [if_neg (show ¬ (false = true) by decide)] at H; exact H
        clear H
        have H := H1
        clear H1
        have H' := Aside0.mk H
        clear H
        go_wp2
        go_loopg [250] kj76 (fun kq v250 w' => ∃ (x250_4 : Int), v250 = .int .i64 x250_4 ∧ Aside0 (laws_FnStepsWornOfAll.l0 kq a1 l2 l3 a4 l5 a6 l7 l8 a9 a10 a11 t324 t336 t337 l0 (l0.length : Int) x250_4 = some r) ∧ Aside0 (kq ≤ kj76) ∧ Aside0 (Kd.V (Kd.int .i64) 3 w' w.heap.size (fun k_ => (P5_ k_ ∨ w.heap.size ≤ k_) ∧ some k_ ≠ (v325 : Value).ownBlock) (.slice A5 l5.length c5) l5) ∧ Aside0 (Kd.R (Kd.int .i64) 3 w' w.heap.size (fun k_ => (w.heap.size ≤ k_)) v325 t324) ∧ Aside0 (Below w.heap.size w w'))
        case atStart => exact ⟨(0), Za, H', ⟨Nat.le_refl _⟩, ⟨VS HO_5.out⟩, ⟨RS HO_25.out⟩, ⟨BS HB.out⟩⟩
        case round =>
         clear H'
         (try clear c85)
         obtain ⟨x250_4, rfl, HA, HK4, HO_5, HO_25, HB⟩ := hrel
         cases gk with
         | zero => exact absurd HA.out (by simp [laws_FnStepsWornOfAll.l0])
         | succ k4 =>
          have H := HA.out
          clear HA
          simp only [laws_FnStepsWornOfAll.l0] at H
          by_cases c86 : x250_4 < (l0.length : Int)
          ·rw [if_pos c86] at H
           have c86b0 : decide (x250_4 < (l0.length : Int)) = true := decide_eq_true c86
           clear c86
           by_cases c87 : 0 ≤ x250_4
           ·rw [if_pos c87] at H
            have c87b0 : decide (0 ≤ x250_4) = true := decide_eq_true c87
            clear c87
            by_cases c88 : x250_4 < (l0.length : Int)
            ·rw [if_pos c88] at H
             have c88b0 : decide (x250_4 < (l0.length : Int)) = true := decide_eq_true c88
             clear c88
             replace H := Option.bind_eq_some_iff.mp H
             obtain ⟨t349, A890, H⟩ := H
             try dsimp only at H
             have A89 := Aside0.mk A890
             clear A890
             by_cases c90 : t349 = true
             ·subst c90
              have H1 : (if x250_4 < (t324.length : Int) then (if (rd t324 x250_4) = (wrap64 ((rd l0 x250_4) - 1)) then ((laws_wHas.f k4 l2 (wrap64 (x250_4 + 1))).bind fun t351 => (if t351 = true then (laws_FnStepsWornOfAll.l0 k4 a1 l2 l3 a4 l5 a6 l7 l8 a9 a10 a11 t324 t336 t337 l0 (l0.length : Int) (wrap64 (x250_4 + 1))) else (if (rd t324 x250_4) = (rd l0 x250_4) then (laws_FnStepsWornOfAll.l0 k4 a1 l2 l3 a4 l5 a6 l7 l8 a9 a10 a11 t324 t336 t337 l0 (l0.length : Int) (wrap64 (x250_4 + 1))) else (some false)))) else (some false)) else (none)) = some r := by rw [if_pos rfl] at H; exact H
              clear H
              have H := H1
              clear H1
              by_cases c91 : x250_4 < (t324.length : Int)
              ·rw [if_pos c91] at H
               have c91b0 : decide (x250_4 < (t324.length : Int)) = true := decide_eq_true c91
               clear c91
               by_cases c92 : (rd t324 x250_4) = (wrap64 ((rd l0 x250_4) - 1))
               ·rw [if_pos c92] at H
                have c92b0 : ((rd t324 x250_4) == (wrap64 ((rd l0 x250_4) - 1))) = true := beq_iff_eq.mpr c92
                have c92b1 : ((rd t324 x250_4) != (wrap64 ((rd l0 x250_4) - 1))) = false := bne_eq_false_iff_eq.mpr c92
                clear c92
                replace H := Option.bind_eq_some_iff.mp H
                obtain ⟨t351, A930, H⟩ := H
                try dsimp only at H
                have A93 := Aside0.mk A930
                clear A930
                by_cases c94 : t351 = true
                ·subst c94
                 have H1 : (laws_FnStepsWornOfAll.l0 k4 a1 l2 l3 a4 l5 a6 l7 l8 a9 a10 a11 t324 t336 t337 l0 (l0.length : Int) (wrap64 (x250_4 + 1))) = some r := by rw [if_pos rfl] at H; exact H
                 clear H
                 have H := H1
                 clear H1
                 have H' := Aside0.mk H
                 clear H
                 have p348 : 0 ≤ (x250_4 : Int) := OD
                 have q348 : x250_4 < (l0.length : Int) := OD
                 obtain ⟨ad348, e348, hx348_0⟩ := Kd.at_int HR0.out x250_4 p348 q348
                 cases e348
                 replace hx348_0 := (HB.out.cell (World.block_lt_of_cell? w _ hx348_0)).trans hx348_0
                 replace p348 := eq_true p348
                 replace q348 := eq_true q348
                 go_wp2_with (first | ((with_reducible refine gate_callee (f := 14) rfl ?_); refine goesL_ (some 258) rfl rfl Tryz.func14 (by kernel_rfl) rfl #[.slice A2 l2.length c2, .int .i64 (wrap64 (x250_4 + 1))] rfl Zc ?_; (with_reducible refine (laws_wHas.calls k4 _ _ l2 (wrap64 (x250_4 + 1)) true _ ?side1 ?side2 A89.out).mono ?_); (case side1 => exact CS (Kd.C_below HR2.out HB.out)); (case side2 => exact HC2.out); rintro e w' ⟨rfl, ⟨nd, rfl⟩⟩; refine ⟨_, rfl, ?_⟩; obtain ⟨Ao95, co95, eo95⟩ := Kd.R_slice HO_25.out; subst eo95; have p350 : 0 ≤ (x250_4 : Int) := OD; have q350 : x250_4 < (t324.length : Int) := OD; obtain ⟨ad350, e350, hx350_0⟩ := Kd.at_int (Kd.R_reads' HO_25.out).2.2 x250_4 p350 q350; cases e350; replace p350 := eq_true p350; replace q350 := eq_true q350) | (go_at_call 14; (with_reducible refine (laws_wHas.calls k4 _ _ l2 (wrap64 (x250_4 + 1)) true _ ?side1 ?side2 A93.out).mono ?_); (case side1 => exact (Kd.C_below HR2.out (BS HB.out))); (case side2 => exact HC2.out); rintro e w' ⟨rfl, ⟨nd, rfl⟩⟩))
                 go_roundg k4
                 case measure => have := HJ12.out; have := HJ26.out; have := HJ76.out; have := HK4.out; omega
                 case rel => exact ⟨(wrap64 (x250_4 + 1)), Za, H', ⟨by have := HJ12.out; have := HJ26.out; have := HJ76.out; have := HK4.out; omega⟩, ⟨VS HO_5.out⟩, ⟨RS HO_25.out⟩, ⟨BS HB.out⟩⟩
                ·replace c94 := Bool.eq_false_iff.mpr c94
                 subst c94
                 have H1 : (if (rd t324 x250_4) = (rd l0 x250_4) then (laws_FnStepsWornOfAll.l0 k4 a1 l2 l3 a4 l5 a6 l7 l8 a9 a10 a11 t324 t336 t337 l0 (l0.length : Int) (wrap64 (x250_4 + 1))) else (some false)) = some r := by rw [if_neg (show ¬ (false = true) by decide)] at H; exact H
                 clear H
                 have H := H1
                 clear H1
                 by_cases c96 : (rd t324 x250_4) = (rd l0 x250_4)
                 ·rw [if_pos c96] at H
                  have c96b0 : ((rd t324 x250_4) == (rd l0 x250_4)) = true := beq_iff_eq.mpr c96
                  have c96b1 : ((rd t324 x250_4) != (rd l0 x250_4)) = false := bne_eq_false_iff_eq.mpr c96
                  clear c96
                  have H' := Aside0.mk H
                  clear H
                  have p348 : 0 ≤ (x250_4 : Int) := OD
                  have q348 : x250_4 < (l0.length : Int) := OD
                  obtain ⟨ad348, e348, hx348_0⟩ := Kd.at_int HR0.out x250_4 p348 q348
                  cases e348
                  replace hx348_0 := (HB.out.cell (World.block_lt_of_cell? w _ hx348_0)).trans hx348_0
                  replace p348 := eq_true p348
                  replace q348 := eq_true q348
                  go_wp2_with (first | ((with_reducible refine gate_callee (f := 14) rfl ?_); refine goesL_ (some 258) rfl rfl Tryz.func14 (by kernel_rfl) rfl #[.slice A2 l2.length c2, .int .i64 (wrap64 (x250_4 + 1))] rfl Zc ?_; (with_reducible refine (laws_wHas.calls k4 _ _ l2 (wrap64 (x250_4 + 1)) true _ ?side1 ?side2 A89.out).mono ?_); (case side1 => exact CS (Kd.C_below HR2.out HB.out)); (case side2 => exact HC2.out); rintro e w' ⟨rfl, ⟨nd, rfl⟩⟩; refine ⟨_, rfl, ?_⟩; obtain ⟨Ao97, co97, eo97⟩ := Kd.R_slice HO_25.out; subst eo97; have p350 : 0 ≤ (x250_4 : Int) := OD; have q350 : x250_4 < (t324.length : Int) := OD; obtain ⟨ad350, e350, hx350_0⟩ := Kd.at_int (Kd.R_reads' HO_25.out).2.2 x250_4 p350 q350; cases e350; replace p350 := eq_true p350; replace q350 := eq_true q350) | (go_at_call 14; (with_reducible refine (laws_wHas.calls k4 _ _ l2 (wrap64 (x250_4 + 1)) false _ ?side1 ?side2 A93.out).mono ?_); (case side1 => exact (Kd.C_below HR2.out (BS HB.out))); (case side2 => exact HC2.out); rintro e w' ⟨rfl, ⟨nd, rfl⟩⟩; have p352 : 0 ≤ (x250_4 : Int) := OD; have q352 : x250_4 < (t324.length : Int) := OD; obtain ⟨ad352, e352, hx352_0⟩ := Kd.at_int (Kd.R_reads' HO_25.out).2.2 x250_4 p352 q352; obtain rfl : ad350 = ad352 := (by injection e352); replace p352 := eq_true p352; replace q352 := eq_true q352))
                  go_roundg k4
                  case measure => have := HJ12.out; have := HJ26.out; have := HJ76.out; have := HK4.out; omega
                  case rel => exact ⟨(wrap64 (x250_4 + 1)), Za, H', ⟨by have := HJ12.out; have := HJ26.out; have := HJ76.out; have := HK4.out; omega⟩, ⟨VS HO_5.out⟩, ⟨RS HO_25.out⟩, ⟨BS HB.out⟩⟩
                 ·rw [if_neg c96] at H
                  have c96b0 : ((rd t324 x250_4) == (rd l0 x250_4)) = false := beq_eq_false_iff_ne.mpr c96
                  have c96b1 : ((rd t324 x250_4) != (rd l0 x250_4)) = true := bne_iff_ne.mpr c96
                  obtain rfl := Option.some.inj H
                  have p348 : 0 ≤ (x250_4 : Int) := OD
                  have q348 : x250_4 < (l0.length : Int) := OD
                  obtain ⟨ad348, e348, hx348_0⟩ := Kd.at_int HR0.out x250_4 p348 q348
                  cases e348
                  replace hx348_0 := (HB.out.cell (World.block_lt_of_cell? w _ hx348_0)).trans hx348_0
                  replace p348 := eq_true p348
                  replace q348 := eq_true q348
                  go_wp2_with (first | ((with_reducible refine gate_callee (f := 14) rfl ?_); refine goesL_ (some 258) rfl rfl Tryz.func14 (by kernel_rfl) rfl #[.slice A2 l2.length c2, .int .i64 (wrap64 (x250_4 + 1))] rfl Zc ?_; (with_reducible refine (laws_wHas.calls k4 _ _ l2 (wrap64 (x250_4 + 1)) true _ ?side1 ?side2 A89.out).mono ?_); (case side1 => exact CS (Kd.C_below HR2.out HB.out)); (case side2 => exact HC2.out); rintro e w' ⟨rfl, ⟨nd, rfl⟩⟩; refine ⟨_, rfl, ?_⟩; obtain ⟨Ao98, co98, eo98⟩ := Kd.R_slice HO_25.out; subst eo98; have p350 : 0 ≤ (x250_4 : Int) := OD; have q350 : x250_4 < (t324.length : Int) := OD; obtain ⟨ad350, e350, hx350_0⟩ := Kd.at_int (Kd.R_reads' HO_25.out).2.2 x250_4 p350 q350; cases e350; replace p350 := eq_true p350; replace q350 := eq_true q350) | (go_at_call 14; (with_reducible refine (laws_wHas.calls k4 _ _ l2 (wrap64 (x250_4 + 1)) false _ ?side1 ?side2 A93.out).mono ?_); (case side1 => exact (Kd.C_below HR2.out (BS HB.out))); (case side2 => exact HC2.out); rintro e w' ⟨rfl, ⟨nd, rfl⟩⟩; have p352 : 0 ≤ (x250_4 : Int) := OD; have q352 : x250_4 < (t324.length : Int) := OD; obtain ⟨ad352, e352, hx352_0⟩ := Kd.at_int (Kd.R_reads' HO_25.out).2.2 x250_4 p352 q352; obtain rfl : ad350 = ad352 := (by injection e352); replace p352 := eq_true p352; replace q352 := eq_true q352))
                  go_ret
                  exact ⟨Zb, BS HB.out⟩
               ·rw [if_neg c92] at H
                have c92b0 : ((rd t324 x250_4) == (wrap64 ((rd l0 x250_4) - 1))) = false := beq_eq_false_iff_ne.mpr c92
                have c92b1 : ((rd t324 x250_4) != (wrap64 ((rd l0 x250_4) - 1))) = true := bne_iff_ne.mpr c92
                obtain rfl := Option.some.inj H
                have p348 : 0 ≤ (x250_4 : Int) := OD
                have q348 : x250_4 < (l0.length : Int) := OD
                obtain ⟨ad348, e348, hx348_0⟩ := Kd.at_int HR0.out x250_4 p348 q348
                cases e348
                replace hx348_0 := (HB.out.cell (World.block_lt_of_cell? w _ hx348_0)).trans hx348_0
                replace p348 := eq_true p348
                replace q348 := eq_true q348
                go_wp2_with (first | ((with_reducible refine gate_callee (f := 14) rfl ?_); refine goesL_ (some 258) rfl rfl Tryz.func14 (by kernel_rfl) rfl #[.slice A2 l2.length c2, .int .i64 (wrap64 (x250_4 + 1))] rfl Zc ?_; (with_reducible refine (laws_wHas.calls k4 _ _ l2 (wrap64 (x250_4 + 1)) true _ ?side1 ?side2 A89.out).mono ?_); (case side1 => exact CS (Kd.C_below HR2.out HB.out)); (case side2 => exact HC2.out); rintro e w' ⟨rfl, ⟨nd, rfl⟩⟩; refine ⟨_, rfl, ?_⟩; obtain ⟨Ao99, co99, eo99⟩ := Kd.R_slice HO_25.out; subst eo99; have p350 : 0 ≤ (x250_4 : Int) := OD; have q350 : x250_4 < (t324.length : Int) := OD; obtain ⟨ad350, e350, hx350_0⟩ := Kd.at_int (Kd.R_reads' HO_25.out).2.2 x250_4 p350 q350; cases e350; replace p350 := eq_true p350; replace q350 := eq_true q350))
                go_ret
                exact ⟨Zb, BS HB.out⟩
              ·rw [if_neg c91] at H
               exact absurd H (by simp)
             ·replace c90 := Bool.eq_false_iff.mpr c90
              subst c90
              have H1 : ((laws_wHas.f k4 l2 (wrap64 (x250_4 + 1))).bind fun t353 => (if t353 = true then (laws_FnStepsWornOfAll.l0 k4 a1 l2 l3 a4 l5 a6 l7 l8 a9 a10 a11 t324 t336 t337 l0 (l0.length : Int) (wrap64 (x250_4 + 1))) else (if x250_4 < (t324.length : Int) then (if (rd t324 x250_4) = (rd l0 x250_4) then (laws_FnStepsWornOfAll.l0 k4 a1 l2 l3 a4 l5 a6 l7 l8 a9 a10 a11 t324 t336 t337 l0 (l0.length : Int) (wrap64 (x250_4 + 1))) else (some false)) else (none)))) = some r := by rw [if_neg (show ¬ (false = true) by decide)] at H; exact H
              clear H
              have H := H1
              clear H1
              replace H := Option.bind_eq_some_iff.mp H
              obtain ⟨t353, A1000, H⟩ := H
              try dsimp only at H
              have A100 := Aside0.mk A1000
              clear A1000
              by_cases c101 : t353 = true
              ·subst c101
               have H1 : (laws_FnStepsWornOfAll.l0 k4 a1 l2 l3 a4 l5 a6 l7 l8 a9 a10 a11 t324 t336 t337 l0 (l0.length : Int) (wrap64 (x250_4 + 1))) = some r := by rw [if_pos rfl] at H; exact H
               clear H
               have H := H1
               clear H1
               have H' := Aside0.mk H
               clear H
               have p348 : 0 ≤ (x250_4 : Int) := OD
               have q348 : x250_4 < (l0.length : Int) := OD
               obtain ⟨ad348, e348, hx348_0⟩ := Kd.at_int HR0.out x250_4 p348 q348
               cases e348
               replace hx348_0 := (HB.out.cell (World.block_lt_of_cell? w _ hx348_0)).trans hx348_0
               replace p348 := eq_true p348
               replace q348 := eq_true q348
               go_wp2_with (first | ((with_reducible refine gate_callee (f := 14) rfl ?_); refine goesL_ (some 258) rfl rfl Tryz.func14 (by kernel_rfl) rfl #[.slice A2 l2.length c2, .int .i64 (wrap64 (x250_4 + 1))] rfl Zc ?_; (with_reducible refine (laws_wHas.calls k4 _ _ l2 (wrap64 (x250_4 + 1)) false _ ?side1 ?side2 A89.out).mono ?_); (case side1 => exact CS (Kd.C_below HR2.out HB.out)); (case side2 => exact HC2.out); rintro e w' ⟨rfl, ⟨nd, rfl⟩⟩; refine ⟨_, rfl, ?_⟩) | (go_at_call 14; (with_reducible refine (laws_wHas.calls k4 _ _ l2 (wrap64 (x250_4 + 1)) true _ ?side1 ?side2 A100.out).mono ?_); (case side1 => exact (Kd.C_below HR2.out (BS HB.out))); (case side2 => exact HC2.out); rintro e w' ⟨rfl, ⟨nd, rfl⟩⟩))
               go_roundg k4
               case measure => have := HJ12.out; have := HJ26.out; have := HJ76.out; have := HK4.out; omega
               case rel => exact ⟨(wrap64 (x250_4 + 1)), Za, H', ⟨by have := HJ12.out; have := HJ26.out; have := HJ76.out; have := HK4.out; omega⟩, ⟨VS HO_5.out⟩, ⟨RS HO_25.out⟩, ⟨BS HB.out⟩⟩
              ·replace c101 := Bool.eq_false_iff.mpr c101
               subst c101
               have H1 : (if x250_4 < (t324.length : Int) then (if (rd t324 x250_4) = (rd l0 x250_4) then (laws_FnStepsWornOfAll.l0 k4 a1 l2 l3 a4 l5 a6 l7 l8 a9 a10 a11 t324 t336 t337 l0 (l0.length : Int) (wrap64 (x250_4 + 1))) else (some false)) else (none)) = some r := by rw [if_neg (show ¬ (false = true) by decide)] at H; exact H
               clear H
               have H := H1
               clear H1
               by_cases c102 : x250_4 < (t324.length : Int)
               ·rw [if_pos c102] at H
                have c102b0 : decide (x250_4 < (t324.length : Int)) = true := decide_eq_true c102
                clear c102
                by_cases c103 : (rd t324 x250_4) = (rd l0 x250_4)
                ·rw [if_pos c103] at H
                 have c103b0 : ((rd t324 x250_4) == (rd l0 x250_4)) = true := beq_iff_eq.mpr c103
                 have c103b1 : ((rd t324 x250_4) != (rd l0 x250_4)) = false := bne_eq_false_iff_eq.mpr c103
                 clear c103
                 have H' := Aside0.mk H
                 clear H
                 have p348 : 0 ≤ (x250_4 : Int) := OD
                 have q348 : x250_4 < (l0.length : Int) := OD
                 obtain ⟨ad348, e348, hx348_0⟩ := Kd.at_int HR0.out x250_4 p348 q348
                 cases e348
                 replace hx348_0 := (HB.out.cell (World.block_lt_of_cell? w _ hx348_0)).trans hx348_0
                 replace p348 := eq_true p348
                 replace q348 := eq_true q348
                 go_wp2_with (first | ((with_reducible refine gate_callee (f := 14) rfl ?_); refine goesL_ (some 258) rfl rfl Tryz.func14 (by kernel_rfl) rfl #[.slice A2 l2.length c2, .int .i64 (wrap64 (x250_4 + 1))] rfl Zc ?_; (with_reducible refine (laws_wHas.calls k4 _ _ l2 (wrap64 (x250_4 + 1)) false _ ?side1 ?side2 A89.out).mono ?_); (case side1 => exact CS (Kd.C_below HR2.out HB.out)); (case side2 => exact HC2.out); rintro e w' ⟨rfl, ⟨nd, rfl⟩⟩; refine ⟨_, rfl, ?_⟩) | (go_at_call 14; (with_reducible refine (laws_wHas.calls k4 _ _ l2 (wrap64 (x250_4 + 1)) false _ ?side1 ?side2 A100.out).mono ?_); (case side1 => exact (Kd.C_below HR2.out (BS HB.out))); (case side2 => exact HC2.out); rintro e w' ⟨rfl, ⟨nd, rfl⟩⟩; obtain ⟨Ao104, co104, eo104⟩ := Kd.R_slice HO_25.out; subst eo104; have p354 : 0 ≤ (x250_4 : Int) := OD; have q354 : x250_4 < (t324.length : Int) := OD; obtain ⟨ad354, e354, hx354_0⟩ := Kd.at_int (Kd.R_reads' HO_25.out).2.2 x250_4 p354 q354; cases e354; replace p354 := eq_true p354; replace q354 := eq_true q354))
                 go_roundg k4
                 case measure => have := HJ12.out; have := HJ26.out; have := HJ76.out; have := HK4.out; omega
                 case rel => exact ⟨(wrap64 (x250_4 + 1)), Za, H', ⟨by have := HJ12.out; have := HJ26.out; have := HJ76.out; have := HK4.out; omega⟩, ⟨VS HO_5.out⟩, ⟨RS HO_25.out⟩, ⟨BS HB.out⟩⟩
                ·rw [if_neg c103] at H
                 have c103b0 : ((rd t324 x250_4) == (rd l0 x250_4)) = false := beq_eq_false_iff_ne.mpr c103
                 have c103b1 : ((rd t324 x250_4) != (rd l0 x250_4)) = true := bne_iff_ne.mpr c103
                 obtain rfl := Option.some.inj H
                 have p348 : 0 ≤ (x250_4 : Int) := OD
                 have q348 : x250_4 < (l0.length : Int) := OD
                 obtain ⟨ad348, e348, hx348_0⟩ := Kd.at_int HR0.out x250_4 p348 q348
                 cases e348
                 replace hx348_0 := (HB.out.cell (World.block_lt_of_cell? w _ hx348_0)).trans hx348_0
                 replace p348 := eq_true p348
                 replace q348 := eq_true q348
                 go_wp2_with (first | ((with_reducible refine gate_callee (f := 14) rfl ?_); refine goesL_ (some 258) rfl rfl Tryz.func14 (by kernel_rfl) rfl #[.slice A2 l2.length c2, .int .i64 (wrap64 (x250_4 + 1))] rfl Zc ?_; (with_reducible refine (laws_wHas.calls k4 _ _ l2 (wrap64 (x250_4 + 1)) false _ ?side1 ?side2 A89.out).mono ?_); (case side1 => exact CS (Kd.C_below HR2.out HB.out)); (case side2 => exact HC2.out); rintro e w' ⟨rfl, ⟨nd, rfl⟩⟩; refine ⟨_, rfl, ?_⟩) | (go_at_call 14; (with_reducible refine (laws_wHas.calls k4 _ _ l2 (wrap64 (x250_4 + 1)) false _ ?side1 ?side2 A100.out).mono ?_); (case side1 => exact (Kd.C_below HR2.out (BS HB.out))); (case side2 => exact HC2.out); rintro e w' ⟨rfl, ⟨nd, rfl⟩⟩; obtain ⟨Ao105, co105, eo105⟩ := Kd.R_slice HO_25.out; subst eo105; have p354 : 0 ≤ (x250_4 : Int) := OD; have q354 : x250_4 < (t324.length : Int) := OD; obtain ⟨ad354, e354, hx354_0⟩ := Kd.at_int (Kd.R_reads' HO_25.out).2.2 x250_4 p354 q354; cases e354; replace p354 := eq_true p354; replace q354 := eq_true q354))
                 go_ret
                 exact ⟨Zb, BS HB.out⟩
               ·rw [if_neg c102] at H
                exact absurd H (by simp)
            ·rw [if_neg c88] at H
             exact absurd H (by simp)
           ·rw [if_neg c87] at H
            exact absurd H (by simp)
          ·rw [if_neg c86] at H
           have c86b0 : decide (x250_4 < (l0.length : Int)) = false := decide_eq_false c86
           clear c86
           by_cases c106 : t337 = true
           ·subst c106
            have H1 : ((impl_MostWears.f k4 t324 a1).bind fun bt355 => (if bt355.2 = true then (if bt355.1 ≥ t336 then (some false) else (laws_FnStepsWornOfAll.j4 k4 l3 a4 l5 a6 l7 l8 a9 a10 a11)) else (some false))) = some r := by rw [if_pos rfl] at H; exact H
            clear H
            have H := H1
            clear H1
            replace H := Option.bind_eq_some_iff.mp H
            obtain ⟨⟨t355, t356⟩, A1070, H⟩ := H
            try dsimp only at H
            have A107 := Aside0.mk A1070
            clear A1070
            by_cases c108 : t356 = true
            ·subst c108
             have H1 : (if t355 ≥ t336 then (some false) else (laws_FnStepsWornOfAll.j4 k4 l3 a4 l5 a6 l7 l8 a9 a10 a11)) = some r := by rw [if_pos rfl] at H; exact H
             clear H
             have H := H1
             clear H1
             by_cases c109 : t355 ≥ t336
             ·rw [if_pos c109] at H
              have c109b0 : decide (t336 ≤ t355) = true := decide_eq_true c109
              clear c109
              obtain rfl := Option.some.inj H
              obtain ⟨Ao110, co110, eo110⟩ := Kd.R_slice HO_25.out
              subst eo110
              go_wp2_with (first | ((with_reducible refine gate_callee (f := 8) rfl ?_); refine goesL_ (some 288) rfl rfl Tryz.func8 (by kernel_rfl) rfl #[.slice Ao110 t324.length co110, .int .i64 a1] rfl Zc ?_; (with_reducible refine (impl_MostWears.calls k4 _ _ t324 a1 t355 true _ ?side1 ?side2 A107.out).mono ?_); (case side1 => exact CS (Kd.R_reads' HO_25.out).2.2); (case side2 => exact (Kd.R_reads' HO_25.out).2.1); rintro e w111 ⟨rfl, hb⟩; refine ⟨_, rfl, ?_⟩; have n0_ := Aside0.mk (Kd.V_below (VS HO_5.out) hb); have n1_ := Aside0.mk (Kd.R_below (RS HO_25.out) hb); have n2_ := Aside0.mk (below_step (BS HB.out) hb); clear HO_5; clear HO_25; clear HB; have HO_5 := n0_; have HO_25 := n1_; have HB := n2_; clear n0_ n1_ n2_; (try clear hb); (try clear hb2); (try clear hk); (try clear hi)))
              go_ret
              exact ⟨Zb, BS HB.out⟩
             ·rw [if_neg c109] at H
              have c109b0 : decide (t336 ≤ t355) = false := decide_eq_false c109
              clear c109
              have H' := Aside0.mk H
              clear H
              obtain ⟨Ao112, co112, eo112⟩ := Kd.R_slice HO_25.out
              subst eo112
              go_wp2_with (first | ((with_reducible refine gate_callee (f := 8) rfl ?_); refine goesL_ (some 288) rfl rfl Tryz.func8 (by kernel_rfl) rfl #[.slice Ao112 t324.length co112, .int .i64 a1] rfl Zc ?_; (with_reducible refine (impl_MostWears.calls k4 _ _ t324 a1 t355 true _ ?side1 ?side2 A107.out).mono ?_); (case side1 => exact CS (Kd.R_reads' HO_25.out).2.2); (case side2 => exact (Kd.R_reads' HO_25.out).2.1); rintro e w113 ⟨rfl, hb⟩; refine ⟨_, rfl, ?_⟩; have n0_ := Aside0.mk (Kd.V_below (VS HO_5.out) hb); have n1_ := Aside0.mk (Kd.R_below (RS HO_25.out) hb); have n2_ := Aside0.mk (below_step (BS HB.out) hb); clear HO_5; clear HO_25; clear HB; have HO_5 := n0_; have HO_25 := n1_; have HB := n2_; clear n0_ n1_ n2_; (try clear hb); (try clear hb2); (try clear hk); (try clear hi)))
              go_meet
              case rel => exact ⟨_, H', ⟨by have := HJ12.out; have := HJ26.out; have := HJ76.out; have := HK4.out; first | omega | exact Nat.le_refl _⟩, ⟨VS (Kd.V_mono HO_5.out (fun _ hk => hk.1))⟩, ⟨BS HB.out⟩⟩
            ·replace c108 := Bool.eq_false_iff.mpr c108
             subst c108
             have H1 : (some false) = some r := by rw [if_neg (show ¬ (false = true) by decide)] at H; exact H
             clear H
             have H := H1
             clear H1
             obtain rfl := Option.some.inj H
             obtain ⟨Ao114, co114, eo114⟩ := Kd.R_slice HO_25.out
             subst eo114
             go_wp2_with (first | ((with_reducible refine gate_callee (f := 8) rfl ?_); refine goesL_ (some 288) rfl rfl Tryz.func8 (by kernel_rfl) rfl #[.slice Ao114 t324.length co114, .int .i64 a1] rfl Zc ?_; (with_reducible refine (impl_MostWears.calls k4 _ _ t324 a1 t355 false _ ?side1 ?side2 A107.out).mono ?_); (case side1 => exact CS (Kd.R_reads' HO_25.out).2.2); (case side2 => exact (Kd.R_reads' HO_25.out).2.1); rintro e w115 ⟨rfl, hb⟩; refine ⟨_, rfl, ?_⟩; have n0_ := Aside0.mk (Kd.V_below (VS HO_5.out) hb); have n1_ := Aside0.mk (Kd.R_below (RS HO_25.out) hb); have n2_ := Aside0.mk (below_step (BS HB.out) hb); clear HO_5; clear HO_25; clear HB; have HO_5 := n0_; have HO_25 := n1_; have HB := n2_; clear n0_ n1_ n2_; (try clear hb); (try clear hb2); (try clear hk); (try clear hi)))
             go_ret
             exact ⟨Zb, BS HB.out⟩
           ·replace c106 := Bool.eq_false_iff.mpr c106
            subst c106
            have H1 : (laws_FnStepsWornOfAll.j4 k4 l3 a4 l5 a6 l7 l8 a9 a10 a11) = some r := by rw [if_neg (show ¬ (false = true) by decide)] at H; exact H
            clear H
            have H := H1
            clear H1
            have H' := Aside0.mk H
            clear H
            go_wp2
            go_meet
            case rel => exact ⟨_, H', ⟨by have := HJ12.out; have := HJ26.out; have := HJ76.out; have := HK4.out; first | omega | exact Nat.le_refl _⟩, ⟨VS (Kd.V_mono HO_5.out (fun _ hk => hk.1))⟩, ⟨BS HB.out⟩⟩
    ·replace c76 := Bool.eq_false_iff.mpr c76
     subst c76
     have H1 : (laws_FnStepsWornOfAll.j4 kj26 l3 a4 l5 a6 l7 l8 a9 a10 a11) = some r := by rw [if_neg (show ¬ (false = true) by decide)] at H; exact H
     clear H
     have H := H1
     clear H1
     have H' := Aside0.mk H
     clear H
     go_wp2
     go_meet
     case rel => exact ⟨_, H', ⟨by have := HJ12.out; have := HJ26.out; first | omega | exact Nat.le_refl _⟩, ⟨VS (Kd.V_mono HO_5.out (fun _ hk => hk.1))⟩, ⟨BS HB.out⟩⟩
   case rest =>
    go_step
    exact laws_FnStepsWornOfAll.stage2 _ _ _ _ _ _ _ _ _ _ _ _ _ _ _ _ _ _ _ _ _ _ _ _ _ _ _ _ _ _ _ _ _ _ _ _ _ _ _ _ _ _ _ _ _ _ _ _ _ _ _ _ _ _ _ _ _ _ _ _ _ _ _ _ _ _ _ _ _ _ _ _ _ _ _ _ _ _ _ _ _ _ _ _ _ _ _ _ _ _ _ _ _ _ _ _ _ _ _ _ _ _ _ _ _ _ _ _ _ _ _ _ _ _ _ _ _ _ _ _ _ _ _ _ _ _ _ _ _ _ _ _ _ _ _ _ _ _ _ _ _ _ _ _ _ _ _ _ _ _ _ _ _ _ _ _ _ _ _ _ _ _ _ _ _ _ _ _ _ _ _ _ _ _ _ _ _ _ _ _ _ _ _ _ _ _ _ _ _ _ _ _ _ _ _ _ _ _ _ _ _ _ _ _ _ _ _ _ _ _ _ _ _ _ _ _ _ _ _ _ _ _ _ _ _ _ _ _ _ _ _ _ _ _ _ _ _ _ _ _ _ _ _ _ _ _ _ _ _ _ _ htb HR3 HC3 HR7 HC7 HR8 HC8 HJ12 HJ26 HC75 hcut
end Go.Proofs.YtmonnbbihmpedaaGreatDoor.PFnStepsWornOfAll
