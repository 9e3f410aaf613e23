-- Written by wip/gen/mp.py of this repo (the kit's printer with our own parts): functions and their contracts.
import Derived.Test.YtmonnbbihmpedaaGreatDoorPFnStepsWornOfAllx10s1
namespace Go.Proofs.YtmonnbbihmpedaaGreatDoor.PFnStepsWornOfAll
open Go.RowKit Go.Proofs.YtmonnbbihmpedaaGreatDoorW.PrintWords Go.Proofs.YtmonnbbihmpedaaGreatDoorW.PrintLast Go.Proofs.YtmonnbbihmpedaaGreatDoorW.PrintMore
attribute [local go_sem] yielded_undef max2_int min2_int max_two min_two max_three min_three max_four min_four   -- for this text's walks alone
set_option linter.unusedVariables false
set_option linter.unusedSimpArgs false

/-! ### laws_FnStepsWornOfAll: function 3 -/
set_option maxHeartbeats 8000000 in
set_option maxRecDepth 100000 in
theorem laws_FnStepsWornOfAll.stage0 (k c0 c2 c3 c5 c7 c8 kj12 : Nat) (A0 A2 A3 A5 A7 A8 : Option Addr) (l0 l2 l3 l5 l8 t324 t328 : List Int) (a1 a4 a6 a9 a10 t336 t338 : Int) (P5_ : Nat → Prop) (l7 : List (List Int)) (a11 : ByteArray) (r t327 t329 t332 t333 t334 t335 t337 t339 : Bool) (w w31 : World) (ba bb bc bd be bf bg bh bi bj bk bl bm bn bo bp bq br bs bt bu bv bw bx bz b0 b1 b2 b3 b4 b5 b6 v325 v330 b7 b8 b9 bA bB bC bD bE bF bG bH bI bJ bK bL bM bN bO bP bQ bR bS bT bU bV bW bX bY bZ da db dc dd de df dg dh di dj dk dl : Value) (htb : TBB w) (HR0 : Aside0 ((Kd.int IntKind.i64).C w A0 l0.length l0)) (HC0 : Aside0 (l0.length ≤ c0)) (HR2 : Aside0 ((Kd.int IntKind.i64).C w A2 l2.length l2)) (HC2 : Aside0 (l2.length ≤ c2)) (HR3 : Aside0 ((Kd.int IntKind.i64).C w A3 l3.length l3)) (HC3 : Aside0 (l3.length ≤ c3)) (HR7 : Aside0 ((Kd.slice 3 (Kd.int IntKind.i64)).C w A7 l7.length l7)) (HC7 : Aside0 (l7.length ≤ c7)) (HR8 : Aside0 ((Kd.int IntKind.i64).C w A8 l8.length l8)) (HC8 : Aside0 (l8.length ≤ c8)) (HJ12 : Aside0 (kj12 + 1 ≤ k)) (HC27 : Aside0 ((if (t327 != t329) = true then j1 kj12 l0 a1 l2 l3 a4 l5 a6 l7 l8 a9 a10 a11 t324 t327 t336 t337 true else (laws_wSame.f kj12 t324 t328).bind fun (t340 : Bool) => if t340 = true then if (t333 != t335) = true then j1 kj12 l0 a1 l2 l3 a4 l5 a6 l7 l8 a9 a10 a11 t324 t327 t336 t337 true else if (t332 != t334) = true then j1 kj12 l0 a1 l2 l3 a4 l5 a6 l7 l8 a9 a10 a11 t324 t327 t336 t337 true else if (t337 != t339) = true then j1 kj12 l0 a1 l2 l3 a4 l5 a6 l7 l8 a9 a10 a11 t324 t327 t336 t337 true else if t336 = t338 then if t333 = true then if (t327 != t332) = true then j1 kj12 l0 a1 l2 l3 a4 l5 a6 l7 l8 a9 a10 a11 t324 t327 t336 t337 true else (impl_AreBears.f kj12 l0).bind fun (t341 : Bool) => if t341 = true then (impl_AreBears.f kj12 l0).bind fun (t342 : Bool) => (spec_AreBears.f kj12 l0).bind fun (t343 : Bool) => if (t342 != t343) = true then j1 kj12 l0 a1 l2 l3 a4 l5 a6 l7 l8 a9 a10 a11 t324 t327 t336 t337 true else j1 kj12 l0 a1 l2 l3 a4 l5 a6 l7 l8 a9 a10 a11 t324 t327 t336 t337 (t337 != decide (a1 ≤ (↑l0.length : Int))) else j1 kj12 l0 a1 l2 l3 a4 l5 a6 l7 l8 a9 a10 a11 t324 t327 t336 t337 true else if (t327 != false) = true then j1 kj12 l0 a1 l2 l3 a4 l5 a6 l7 l8 a9 a10 a11 t324 t327 t336 t337 true else (impl_AreBears.f kj12 l0).bind fun (t344 : Bool) => (spec_AreBears.f kj12 l0).bind fun (t345 : Bool) => if (t344 != t345) = true then j1 kj12 l0 a1 l2 l3 a4 l5 a6 l7 l8 a9 a10 a11 t324 t327 t336 t337 true else j1 kj12 l0 a1 l2 l3 a4 l5 a6 l7 l8 a9 a10 a11 t324 t327 t336 t337 (t337 != false) else j1 kj12 l0 a1 l2 l3 a4 l5 a6 l7 l8 a9 a10 a11 t324 t327 t336 t337 true else j1 kj12 l0 a1 l2 l3 a4 l5 a6 l7 l8 a9 a10 a11 t324 t327 t336 t337 true) = some r)) (HO_5 : Aside0 ((Kd.int IntKind.i64).V 3 w31 w.heap.size (fun (k : Nat) => ((P5_ k ∨ w.heap.size ≤ k) ∧ some k ≠ v325.ownBlock) ∧ some k ≠ v330.ownBlock) (Value.slice A5 l5.length c5) l5)) (HO326 : Aside0 ((Kd.int IntKind.i64).R 3 w31 w.heap.size (fun (k : Nat) => (w.heap.size ≤ k ∧ True) ∧ some k ≠ v330.ownBlock) v325 t324)) (HO331 : Aside0 ((Kd.int IntKind.i64).R 3 w31 w.heap.size (fun (k : Nat) => (w.heap.size ≤ k ∧ True) ∧ some k ≠ v325.ownBlock) v330 t328)) (HB : Aside0 (Below w.heap.size w w31)) (K1_ K2_ : Act → World → Prop) (hK1_ : ∀ (a_ : Act) (w_ : World), Code.wp Tryz.prog (second_ (second_ (second_ (second_ (second_ (second_ (second_ (second_ (second_ (body_ Tryz.f3)))))))))) (bodyPost Tryz.prog Tryz.f3 (fun e w' => e = .returned (.bool r) ∧ Below w.heap.size w w')) a_ w_ → K1_ a_ w_) (hK2_ : ∀ (a_ : Act) (w_ : World), Code.wp Tryz.prog (second_ (first_ (second_ (second_ (second_ (second_ (second_ (second_ (second_ (second_ (body_ Tryz.f3))))))))))) (Exit.then K1_ (bodyPost Tryz.prog Tryz.f3 (fun e w' => e = .returned (.bool r) ∧ Below w.heap.size w w'))) a_ w_ → K2_ a_ w_) : Code.wp Tryz.prog (first_ (first_ (second_ (second_ (second_ (second_ (second_ (second_ (second_ (second_ (body_ Tryz.f3))))))))))) (Exit.then K2_ (Exit.then K1_ (bodyPost Tryz.prog Tryz.f3 (fun e w' => e = .returned (.bool r) ∧ Below w.heap.size w w')))) { tmps := #[.slice A0 l0.length c0, .int .i64 a1, .slice A2 l2.length c2, .slice A3 l3.length c3, .int .i64 a4, .slice A5 l5.length c5, .int .i64 a6, .slice A7 l7.length c7, .slice A8 l8.length c8, .int .i64 a9, .int .i64 a10, .string a11, undef, undef, undef, undef, undef, undef, undef, undef, undef, undef, undef, undef, .bool false, v325, .bool t327, v330, .bool t329, .bool t332, .bool t333, .bool t334, .bool t335, .int .i64 t336, .bool t337, .int .i64 t338, .bool t339, undef, undef, undef, undef, undef, undef, undef, undef, undef, undef, undef, undef, undef, undef, undef, undef, undef, undef, undef, undef, undef, undef, undef, undef, undef, undef, undef, undef, undef, undef, undef, undef, undef, undef, undef, undef, undef, undef, undef, undef, undef, undef, undef, undef, undef, undef, undef, undef, undef, undef, undef, undef, undef, undef, undef, undef, undef, undef, undef, ba, bb, bc, bd, be, bf, bg, bh, bi, bj, bk, bl, bm, bn, bo, bp, bq, br, bs, bt, bu, bv, bw, bx, bz, b0, b1, b2, b3, b4, b5, b6, b7, b8, b9, bA, bB, bC, bD, bE, bF, bG, bH, bI, bJ, bK, bL, bM, bN, bO, bP, bQ, bR, bS, bT, bU, bV, bW, bX, bY, bZ, da, db, dc, dd, de, df, dg, dh, di, dj, dk, dl, undef, undef, undef, undef, undef, undef, undef, undef, undef, undef, undef, undef, undef, undef, undef, undef, undef, undef, undef, undef, undef, undef, undef, undef, undef, undef, undef, undef, undef, undef, undef, undef, undef, undef, undef, undef, undef, undef, undef, undef, undef, undef, undef, undef, undef, undef, undef, undef, undef, undef, undef, undef, undef, undef, undef, undef, undef, undef, undef, undef, undef, undef, undef, undef, undef, undef, undef, undef, undef, undef, undef, undef, undef, undef, undef, undef, undef, undef, undef, undef, undef, undef, undef, undef, undef, undef, undef, undef, undef, undef, undef, undef, undef, undef, undef, undef, undef, undef, undef, undef, undef, undef, undef, undef, undef, undef, undef, undef, undef, undef, undef, undef, undef, undef, undef, undef, undef, undef, undef, undef, undef, undef, undef, undef, undef, undef, undef, undef, undef, undef, undef, undef, undef, undef, undef, undef, undef, undef, undef, undef, undef, undef, undef, undef, undef, undef, undef, undef, undef, undef, undef, undef, undef, undef, undef, undef, undef, undef, undef, undef, undef, undef, undef, undef, undef, undef, undef, undef, undef, undef, undef, undef, undef, undef, undef, undef, undef, undef, undef, undef, undef, undef, undef, undef, undef, undef, undef, undef, undef, undef, undef, undef, undef, undef, undef, undef, undef, undef, undef, undef, undef, undef, undef, undef, undef, undef, undef, undef, undef, undef, undef, undef, undef, undef, undef, undef, undef, undef, undef, undef, undef, undef, undef, undef, undef, undef, undef, undef, undef, undef, undef, undef, undef, undef, undef, undef, undef, undef, undef, undef, undef, undef, undef, undef, undef, undef, undef, undef, undef, undef, undef, undef, undef, undef, undef, undef, undef, undef, undef, undef, undef, undef, undef, undef, undef, undef, undef, undef, undef, undef, undef, undef, undef, undef, undef, undef, undef, undef, undef, undef, undef, undef, undef, undef, undef, undef, undef, undef, undef, undef, undef, undef, undef, undef, undef, undef, undef, undef, undef, undef, undef, undef, undef, undef, undef, undef, undef, undef, undef, undef, undef, undef, undef, undef, undef, undef, undef, undef, undef, undef, undef, undef, undef, undef, undef, undef, undef, undef, undef, undef, undef, undef, undef, undef, undef, undef, undef, undef, undef, undef, undef, undef, undef, undef, undef, undef, undef, undef, undef, undef, undef, undef, undef, undef, undef, undef, undef, undef, undef, undef, undef, undef, undef, undef, undef, undef, undef, undef, undef, undef, undef, undef, undef, undef, undef, undef, undef, undef, undef, undef, undef, undef, undef, undef, undef, undef, undef, undef, undef, undef, undef, undef, undef, undef, undef, undef, undef, undef, undef, undef, undef, undef, undef, undef, undef, undef, undef, undef, undef, undef, undef, undef, undef, undef, undef, undef, undef, undef, undef, undef, undef, undef, undef, undef, undef, undef, undef, undef, undef, undef, undef, undef, undef, undef, undef, undef, undef, undef, undef, undef, undef, undef, undef, undef, undef, undef, undef, undef, undef, undef, undef, undef, undef, undef, undef, undef, undef, undef, undef, undef, undef, undef, undef, undef, undef, undef, undef, undef, undef, undef, undef, undef, undef, undef, undef, undef, undef, undef, undef, undef, undef, undef, undef, undef, undef, undef, undef, undef, undef, undef, undef, undef, undef, undef, undef, undef, undef, undef, undef, undef, undef, undef, undef, undef, undef, undef, undef, undef, undef, undef, undef, undef, undef, undef, undef, undef, undef, undef, undef, undef, undef, undef, undef, undef, undef, undef, undef, undef, undef, undef, undef, undef, undef, undef, undef, undef, undef, undef, undef], defers := [] } w31 := by
 dsimp only [second_, first_, body_, Tryz.f3] at hK1_ hK2_ ⊢
 go_cut [231] from 231 to 231 (fun v231 wc => ∃ (kq : Nat) (x231_26 : Bool), v231 = .bool x231_26 ∧ Aside0 (laws_FnStepsWornOfAll.j1 kq l0 a1 l2 l3 a4 l5 a6 l7 l8 a9 a10 a11 t324 t327 t336 t337 x231_26 = some r) ∧ Aside0 (kq ≤ kj12) ∧ Aside0 (Kd.V (Kd.int .i64) 3 wc w.heap.size (fun k_ => (P5_ k_ ∨ w.heap.size ≤ k_) ∧ some k_ ≠ (v325 : Value).ownBlock) (.slice A5 l5.length c5) l5) ∧ Aside0 (Kd.R (Kd.int .i64) 3 wc w.heap.size (fun k_ => (w.heap.size ≤ k_)) v325 t324) ∧ Aside0 (Below w.heap.size w wc))
 case first =>
  have H := HC27.out
  clear HC27
  by_cases c32 : (t327 != t329) = true
  ·rw [if_pos c32] at H
   have c32b0 : (t327 != t329) = true := c32
   (try (have c32b1 : decide (t327 = t329) = false := by simpa using c32))
   (try (have c32b2 : (t327 == t329) = false := by simpa using c32))
   (try (have c32b3 : ¬ (t327 = t329) := by simpa using c32))
   clear c32
   (first | rw [c32b0] | (simp only [i64_w, i32_w]; rw [c32b0]) | skip)
   have H' := Aside0.mk H
   clear H
   go_wp2
   go_meet
   case rel => exact ⟨_, (true), Za, H', ⟨by have := HJ12.out; first | omega | exact Nat.le_refl _⟩, ⟨VS (Kd.V_mono HO_5.out (fun _ hk => ⟨hk.1.1, hk.1.2⟩))⟩, ⟨RS (Kd.R_mono HO326.out (fun _ hk => hk.1.1))⟩, ⟨BS HB.out⟩⟩
  ·rw [if_neg c32] at H
   have c32b0 : (t327 != t329) = false := by simpa using c32
   (try (have c32b1 : decide (t327 = t329) = true := by simpa using c32))
   (try (have c32b2 : (t327 == t329) = true := by simpa using c32))
   clear c32
   (first | rw [c32b0] | (simp only [i64_w, i32_w]; rw [c32b0]) | skip)
   replace H := Option.bind_eq_some_iff.mp H
   obtain ⟨t340, A330, H⟩ := H
   try dsimp only at H
   have A33 := Aside0.mk A330
   clear A330
   by_cases c34 : t340 = true
   ·subst c34
    have H1 : (if (t333 != t335) = true then (laws_FnStepsWornOfAll.j1 kj12 l0 a1 l2 l3 a4 l5 a6 l7 l8 a9 a10 a11 t324 t327 t336 t337 true) else (if (t332 != t334) = true then (laws_FnStepsWornOfAll.j1 kj12 l0 a1 l2 l3 a4 l5 a6 l7 l8 a9 a10 a11 t324 t327 t336 t337 true) else (if (t337 != t339) = true then (laws_FnStepsWornOfAll.j1 kj12 l0 a1 l2 l3 a4 l5 a6 l7 l8 a9 a10 a11 t324 t327 t336 t337 true) else (if t336 = t338 then (if t333 = true then (if (t327 != t332) = true then (laws_FnStepsWornOfAll.j1 kj12 l0 a1 l2 l3 a4 l5 a6 l7 l8 a9 a10 a11 t324 t327 t336 t337 true) else ((impl_AreBears.f kj12 l0).bind fun t341 => (if t341 = true then ((impl_AreBears.f kj12 l0).bind fun t342 => ((spec_AreBears.f kj12 l0).bind fun t343 => (if (t342 != t343) = true then (laws_FnStepsWornOfAll.j1 kj12 l0 a1 l2 l3 a4 l5 a6 l7 l8 a9 a10 a11 t324 t327 t336 t337 true) else (laws_FnStepsWornOfAll.j1 kj12 l0 a1 l2 l3 a4 l5 a6 l7 l8 a9 a10 a11 t324 t327 t336 t337 (t337 != (decide (a1 ≤ (l0.length : Int)))))))) else (laws_FnStepsWornOfAll.j1 kj12 l0 a1 l2 l3 a4 l5 a6 l7 l8 a9 a10 a11 t324 t327 t336 t337 true)))) else (if (t327 != false) = true then (laws_FnStepsWornOfAll.j1 kj12 l0 a1 l2 l3 a4 l5 a6 l7 l8 a9 a10 a11 t324 t327 t336 t337 true) else ((impl_AreBears.f kj12 l0).bind fun t344 => ((spec_AreBears.f kj12 l0).bind fun t345 => (if (t344 != t345) = true then (laws_FnStepsWornOfAll.j1 kj12 l0 a1 l2 l3 a4 l5 a6 l7 l8 a9 a10 a11 t324 t327 t336 t337 true) else (laws_FnStepsWornOfAll.j1 kj12 l0 a1 l2 l3 a4 l5 a6 l7 l8 a9 a10 a11 t324 t327 t336 t337 (t337 != false))))))) else (laws_FnStepsWornOfAll.j1 kj12 l0 a1 l2 l3 a4 l5 a6 l7 l8 a9 a10 a11 t324 t327 t336 t337 true))))) = some r := by rw [if_pos rfl] at H; exact H
    clear H
    have H := H1
    clear H1
    by_cases c35 : (t333 != t335) = true
    ·rw [if_pos c35] at H
     have c35b0 : (t333 != t335) = true := c35
     (try (have c35b1 : decide (t333 = t335) = false := by simpa using c35))
     (try (have c35b2 : (t333 == t335) = false := by simpa using c35))
     (try (have c35b3 : ¬ (t333 = t335) := by simpa using c35))
     clear c35
     have H' := Aside0.mk H
     clear H
     obtain ⟨Ao36, co36, eo36⟩ := Kd.R_slice HO326.out
     subst eo36
     obtain ⟨Ao37, co37, eo37⟩ := Kd.R_slice HO331.out
     subst eo37
     go_wp2_with (first | (go_at_call 10; (with_reducible refine (laws_wSame.calls kj12 _ _ t324 _ _ t328 true _ ?side1 ?side2 ?side3 ?side4 A33.out).mono ?_); (case side1 => exact CS (Kd.R_reads' HO326.out).2.2); (case side2 => exact (Kd.R_reads' HO326.out).2.1); (case side3 => exact CS (Kd.R_reads' HO331.out).2.2); (case side4 => exact (Kd.R_reads' HO331.out).2.1); rintro e w' ⟨rfl, ⟨nd, rfl⟩⟩))
     go_meet
     case rel => exact ⟨_, (true), Za, H', ⟨by have := HJ12.out; first | omega | exact Nat.le_refl _⟩, ⟨VS (Kd.V_mono HO_5.out (fun _ hk => ⟨hk.1.1, hk.1.2⟩))⟩, ⟨RS (Kd.R_mono HO326.out (fun _ hk => hk.1.1))⟩, ⟨BS HB.out⟩⟩
    ·rw [if_neg c35] at H
     have c35b0 : (t333 != t335) = false := by simpa using c35
     (try (have c35b1 : decide (t333 = t335) = true := by simpa using c35))
     (try (have c35b2 : (t333 == t335) = true := by simpa using c35))
     clear c35
     by_cases c38 : (t332 != t334) = true
     ·rw [if_pos c38] at H
      have c38b0 : (t332 != t334) = true := c38
      (try (have c38b1 : decide (t332 = t334) = false := by simpa using c38))
      (try (have c38b2 : (t332 == t334) = false := by simpa using c38))
      (try (have c38b3 : ¬ (t332 = t334) := by simpa using c38))
      clear c38
      have H' := Aside0.mk H
      clear H
      obtain ⟨Ao39, co39, eo39⟩ := Kd.R_slice HO326.out
      subst eo39
      obtain ⟨Ao40, co40, eo40⟩ := Kd.R_slice HO331.out
      subst eo40
      go_wp2_with (first | (go_at_call 10; (with_reducible refine (laws_wSame.calls kj12 _ _ t324 _ _ t328 true _ ?side1 ?side2 ?side3 ?side4 A33.out).mono ?_); (case side1 => exact CS (Kd.R_reads' HO326.out).2.2); (case side2 => exact (Kd.R_reads' HO326.out).2.1); (case side3 => exact CS (Kd.R_reads' HO331.out).2.2); (case side4 => exact (Kd.R_reads' HO331.out).2.1); rintro e w' ⟨rfl, ⟨nd, rfl⟩⟩))
      go_meet
      case rel => exact ⟨_, (true), Za, H', ⟨by have := HJ12.out; first | omega | exact Nat.le_refl _⟩, ⟨VS (Kd.V_mono HO_5.out (fun _ hk => ⟨hk.1.1, hk.1.2⟩))⟩, ⟨RS (Kd.R_mono HO326.out (fun _ hk => hk.1.1))⟩, ⟨BS HB.out⟩⟩
     ·rw [if_neg c38] at H
      have c38b0 : (t332 != t334) = false := by simpa using c38
      (try (have c38b1 : decide (t332 = t334) = true := by simpa using c38))
      (try (have c38b2 : (t332 == t334) = true := by simpa using c38))
      clear c38
      by_cases c41 : (t337 != t339) = true
      ·rw [if_pos c41] at H
       have c41b0 : (t337 != t339) = true := c41
       (try (have c41b1 : decide (t337 = t339) = false := by simpa using c41))
       (try (have c41b2 : (t337 == t339) = false := by simpa using c41))
       (try (have c41b3 : ¬ (t337 = t339) := by simpa using c41))
       clear c41
       have H' := Aside0.mk H
       clear H
       obtain ⟨Ao42, co42, eo42⟩ := Kd.R_slice HO326.out
       subst eo42
       obtain ⟨Ao43, co43, eo43⟩ := Kd.R_slice HO331.out
       subst eo43
       go_wp2_with (first | (go_at_call 10; (with_reducible refine (laws_wSame.calls kj12 _ _ t324 _ _ t328 true _ ?side1 ?side2 ?side3 ?side4 A33.out).mono ?_); (case side1 => exact CS (Kd.R_reads' HO326.out).2.2); (case side2 => exact (Kd.R_reads' HO326.out).2.1); (case side3 => exact CS (Kd.R_reads' HO331.out).2.2); (case side4 => exact (Kd.R_reads' HO331.out).2.1); rintro e w' ⟨rfl, ⟨nd, rfl⟩⟩))
       go_meet
       case rel => exact ⟨_, (true), Za, H', ⟨by have := HJ12.out; first | omega | exact Nat.le_refl _⟩, ⟨VS (Kd.V_mono HO_5.out (fun _ hk => ⟨hk.1.1, hk.1.2⟩))⟩, ⟨RS (Kd.R_mono HO326.out (fun _ hk => hk.1.1))⟩, ⟨BS HB.out⟩⟩
      ·rw [if_neg c41] at H
       have c41b0 : (t337 != t339) = false := by simpa using c41
       (try (have c41b1 : decide (t337 = t339) = true := by simpa using c41))
       (try (have c41b2 : (t337 == t339) = true := by simpa using c41))
       clear c41
       by_cases c44 : t336 = t338
       ·rw [if_pos c44] at H
        have c44b0 : (t336 == t338) = true := beq_iff_eq.mpr c44
        have c44b1 : (t336 != t338) = false := bne_eq_false_iff_eq.mpr c44
        clear c44
        by_cases c45 : t333 = true
        ·subst c45
         have H1 : (if (t327 != t332) = true then (laws_FnStepsWornOfAll.j1 kj12 l0 a1 l2 l3 a4 l5 a6 l7 l8 a9 a10 a11 t324 t327 t336 t337 true) else ((impl_AreBears.f kj12 l0).bind fun t341 => (if t341 = true then ((impl_AreBears.f kj12 l0).bind fun t342 => ((spec_AreBears.f kj12 l0).bind fun t343 => (if (t342 != t343) = true then (laws_FnStepsWornOfAll.j1 kj12 l0 a1 l2 l3 a4 l5 a6 l7 l8 a9 a10 a11 t324 t327 t336 t337 true) else (laws_FnStepsWornOfAll.j1 kj12 l0 a1 l2 l3 a4 l5 a6 l7 l8 a9 a10 a11 t324 t327 t336 t337 (t337 != (decide (a1 ≤ (l0.length : Int)))))))) else (laws_FnStepsWornOfAll.j1 kj12 l0 a1 l2 l3 a4 l5 a6 l7 l8 a9 a10 a11 t324 t327 t336 t337 true)))) = some r := by rw [if_pos rfl] at H; exact H
         clear H
         have H := H1
         clear H1
         by_cases c46 : (t327 != t332) = true
         ·rw [if_pos c46] at H
          have c46b0 : (t327 != t332) = true := c46
          (try (have c46b1 : decide (t327 = t332) = false := by simpa using c46))
          (try (have c46b2 : (t327 == t332) = false := by simpa using c46))
          (try (have c46b3 : ¬ (t327 = t332) := by simpa using c46))
          clear c46
          have H' := Aside0.mk H
          clear H
          obtain ⟨Ao47, co47, eo47⟩ := Kd.R_slice HO326.out
          subst eo47
          obtain ⟨Ao48, co48, eo48⟩ := Kd.R_slice HO331.out
          subst eo48
          go_wp2_with (first | (go_at_call 10; (with_reducible refine (laws_wSame.calls kj12 _ _ t324 _ _ t328 true _ ?side1 ?side2 ?side3 ?side4 A33.out).mono ?_); (case side1 => exact CS (Kd.R_reads' HO326.out).2.2); (case side2 => exact (Kd.R_reads' HO326.out).2.1); (case side3 => exact CS (Kd.R_reads' HO331.out).2.2); (case side4 => exact (Kd.R_reads' HO331.out).2.1); rintro e w' ⟨rfl, ⟨nd, rfl⟩⟩))
          go_meet
          case rel => exact ⟨_, (true), Za, H', ⟨by have := HJ12.out; first | omega | exact Nat.le_refl _⟩, ⟨VS (Kd.V_mono HO_5.out (fun _ hk => ⟨hk.1.1, hk.1.2⟩))⟩, ⟨RS (Kd.R_mono HO326.out (fun _ hk => hk.1.1))⟩, ⟨BS HB.out⟩⟩
         ·rw [if_neg c46] at H
          have c46b0 : (t327 != t332) = false := by simpa using c46
          (try (have c46b1 : decide (t327 = t332) = true := by simpa using c46))
          (try (have c46b2 : (t327 == t332) = true := by simpa using c46))
          clear c46
          replace H := Option.bind_eq_some_iff.mp H
          obtain ⟨t341, A490, H⟩ := H
          try dsimp only at H
          have A49 := Aside0.mk A490
          clear A490
          by_cases c50 : t341 = true
          ·subst c50
           have H1 : ((impl_AreBears.f kj12 l0).bind fun t342 => ((spec_AreBears.f kj12 l0).bind fun t343 => (if (t342 != t343) = true then (laws_FnStepsWornOfAll.j1 kj12 l0 a1 l2 l3 a4 l5 a6 l7 l8 a9 a10 a11 t324 t327 t336 t337 true) else (laws_FnStepsWornOfAll.j1 kj12 l0 a1 l2 l3 a4 l5 a6 l7 l8 a9 a10 a11 t324 t327 t336 t337 (t337 != (decide (a1 ≤ (l0.length : Int)))))))) = some r := by rw [if_pos rfl] at H; exact H
           clear H
           have H := H1
           clear H1
           replace H := Option.bind_eq_some_iff.mp H
           obtain ⟨t342, A510, H⟩ := H
           try dsimp only at H
           have A51 := Aside0.mk A510
           clear A510
           replace H := Option.bind_eq_some_iff.mp H
           obtain ⟨t343, A520, H⟩ := H
           try dsimp only at H
           have A52 := Aside0.mk A520
           clear A520
           have e0_ : true = t342 := Option.some.inj (A49.out.symm.trans A51.out)
           subst e0_
           by_cases c53 : (true != t343) = true
           ·rw [if_pos c53] at H
            have c53b0 : (true != t343) = true := c53
            (try (have c53b1 : decide (true = t343) = false := by simpa using c53))
            (try (have c53b2 : (true == t343) = false := by simpa using c53))
            (try (have c53b3 : ¬ (true = t343) := by simpa using c53))
            clear c53
            have H' := Aside0.mk H
            clear H
            obtain ⟨Ao54, co54, eo54⟩ := Kd.R_slice HO326.out
            subst eo54
            obtain ⟨Ao55, co55, eo55⟩ := Kd.R_slice HO331.out
            subst eo55
            go_wp2_with (first | (go_at_call 10; (with_reducible refine (laws_wSame.calls kj12 _ _ t324 _ _ t328 true _ ?side1 ?side2 ?side3 ?side4 A33.out).mono ?_); (case side1 => exact CS (Kd.R_reads' HO326.out).2.2); (case side2 => exact (Kd.R_reads' HO326.out).2.1); (case side3 => exact CS (Kd.R_reads' HO331.out).2.2); (case side4 => exact (Kd.R_reads' HO331.out).2.1); rintro e w' ⟨rfl, ⟨nd, rfl⟩⟩) | (go_at_call 11; (with_reducible refine (impl_AreBears.calls kj12 _ _ l0 true _ ?side1 ?side2 A49.out).mono ?_); (case side1 => exact (Kd.C_below HR0.out (BS HB.out))); (case side2 => exact HC0.out); rintro e w' ⟨rfl, ⟨nd, rfl⟩⟩) | (go_at_call 11; (with_reducible refine (impl_AreBears.calls kj12 _ _ l0 true _ ?side1 ?side2 A51.out).mono ?_); (case side1 => exact (Kd.C_below HR0.out (BS HB.out))); (case side2 => exact HC0.out); rintro e w' ⟨rfl, ⟨nd, rfl⟩⟩) | (go_at_call 12; (with_reducible refine (spec_AreBears.calls kj12 _ _ l0 t343 _ ?side1 ?side2 A52.out).mono ?_); (case side1 => exact (Kd.C_below HR0.out (BS HB.out))); (case side2 => exact HC0.out); rintro e w' ⟨rfl, ⟨nd, rfl⟩⟩))
            go_meet
            case rel => exact ⟨_, (true), Za, H', ⟨by have := HJ12.out; first | omega | exact Nat.le_refl _⟩, ⟨VS (Kd.V_mono HO_5.out (fun _ hk => ⟨hk.1.1, hk.1.2⟩))⟩, ⟨RS (Kd.R_mono HO326.out (fun _ hk => hk.1.1))⟩, ⟨BS HB.out⟩⟩
           ·rw [if_neg c53] at H
            have c53b0 : (true != t343) = false := by simpa using c53
            (try (have c53b1 : decide (true = t343) = true := by simpa using c53))
            (try (have c53b2 : (true == t343) = true := by simpa using c53))
            clear c53
            have H' := Aside0.mk H
            clear H
            obtain ⟨Ao56, co56, eo56⟩ := Kd.R_slice HO326.out
            subst eo56
            obtain ⟨Ao57, co57, eo57⟩ := Kd.R_slice HO331.out
            subst eo57
            go_wp2_with (first | (go_at_call 10; (with_reducible refine (laws_wSame.calls kj12 _ _ t324 _ _ t328 true _ ?side1 ?side2 ?side3 ?side4 A33.out).mono ?_); (case side1 => exact CS (Kd.R_reads' HO326.out).2.2); (case side2 => exact (Kd.R_reads' HO326.out).2.1); (case side3 => exact CS (Kd.R_reads' HO331.out).2.2); (case side4 => exact (Kd.R_reads' HO331.out).2.1); rintro e w' ⟨rfl, ⟨nd, rfl⟩⟩) | (go_at_call 11; (with_reducible refine (impl_AreBears.calls kj12 _ _ l0 true _ ?side1 ?side2 A49.out).mono ?_); (case side1 => exact (Kd.C_below HR0.out (BS HB.out))); (case side2 => exact HC0.out); rintro e w' ⟨rfl, ⟨nd, rfl⟩⟩) | (go_at_call 11; (with_reducible refine (impl_AreBears.calls kj12 _ _ l0 true _ ?side1 ?side2 A51.out).mono ?_); (case side1 => exact (Kd.C_below HR0.out (BS HB.out))); (case side2 => exact HC0.out); rintro e w' ⟨rfl, ⟨nd, rfl⟩⟩) | (go_at_call 12; (with_reducible refine (spec_AreBears.calls kj12 _ _ l0 t343 _ ?side1 ?side2 A52.out).mono ?_); (case side1 => exact (Kd.C_below HR0.out (BS HB.out))); (case side2 => exact HC0.out); rintro e w' ⟨rfl, ⟨nd, rfl⟩⟩))
            go_meet
            case rel => exact ⟨_, ((t337 != (decide (a1 ≤ (l0.length : Int))))), Za, H', ⟨by have := HJ12.out; first | omega | exact Nat.le_refl _⟩, ⟨VS (Kd.V_mono HO_5.out (fun _ hk => ⟨hk.1.1, hk.1.2⟩))⟩, ⟨RS (Kd.R_mono HO326.out (fun _ hk => hk.1.1))⟩, ⟨BS HB.out⟩⟩
          ·replace c50 := Bool.eq_false_iff.mpr c50
           subst c50
           have H1 : (laws_FnStepsWornOfAll.j1 kj12 l0 a1 l2 l3 a4 l5 a6 l7 l8 a9 a10 a11 t324 t327 t336 t337 true) = some r := by rw [if_neg (show ¬ (false = true) by decide)] at H; exact H
           clear H
           have H := H1
           clear H1
           have H' := Aside0.mk H
           clear H
           obtain ⟨Ao58, co58, eo58⟩ := Kd.R_slice HO326.out
           subst eo58
           obtain ⟨Ao59, co59, eo59⟩ := Kd.R_slice HO331.out
           subst eo59
           go_wp2_with (first | (go_at_call 10; (with_reducible refine (laws_wSame.calls kj12 _ _ t324 _ _ t328 true _ ?side1 ?side2 ?side3 ?side4 A33.out).mono ?_); (case side1 => exact CS (Kd.R_reads' HO326.out).2.2); (case side2 => exact (Kd.R_reads' HO326.out).2.1); (case side3 => exact CS (Kd.R_reads' HO331.out).2.2); (case side4 => exact (Kd.R_reads' HO331.out).2.1); rintro e w' ⟨rfl, ⟨nd, rfl⟩⟩) | (go_at_call 11; (with_reducible refine (impl_AreBears.calls kj12 _ _ l0 false _ ?side1 ?side2 A49.out).mono ?_); (case side1 => exact (Kd.C_below HR0.out (BS HB.out))); (case side2 => exact HC0.out); rintro e w' ⟨rfl, ⟨nd, rfl⟩⟩))
           go_meet
           case rel => exact ⟨_, (true), Za, H', ⟨by have := HJ12.out; first | omega | exact Nat.le_refl _⟩, ⟨VS (Kd.V_mono HO_5.out (fun _ hk => ⟨hk.1.1, hk.1.2⟩))⟩, ⟨RS (Kd.R_mono HO326.out (fun _ hk => hk.1.1))⟩, ⟨BS HB.out⟩⟩
        ·replace c45 := Bool.eq_false_iff.mpr c45
         subst c45
         have H1 : (if (t327 != false) = true then (laws_FnStepsWornOfAll.j1 kj12 l0 a1 l2 l3 a4 l5 a6 l7 l8 a9 a10 a11 t324 t327 t336 t337 true) else ((impl_AreBears.f kj12 l0).bind fun t344 => ((spec_AreBears.f kj12 l0).bind fun t345 => (if (t344 != t345) = true then (laws_FnStepsWornOfAll.j1 kj12 l0 a1 l2 l3 a4 l5 a6 l7 l8 a9 a10 a11 t324 t327 t336 t337 true) else (laws_FnStepsWornOfAll.j1 kj12 l0 a1 l2 l3 a4 l5 a6 l7 l8 a9 a10 a11 t324 t327 t336 t337 (t337 != false)))))) = some r := by rw [if_neg (show ¬ (false = true) by decide)] at H; exact H
         clear H
         have H := H1
         clear H1
         by_cases c60 : (t327 != false) = true
         ·rw [if_pos c60] at H
          have e1_ : true = t327 := by simpa using c60.symm
          subst e1_
          have e2_ : true = t329 := by simpa using c32b0
          subst e2_
          have c60b0 : (true != false) = true := c60
          clear c60
          have H' := Aside0.mk H
          clear H
          obtain ⟨Ao61, co61, eo61⟩ := Kd.R_slice HO326.out
          subst eo61
          obtain ⟨Ao62, co62, eo62⟩ := Kd.R_slice HO331.out
          subst eo62
          go_wp2_with (first | (go_at_call 10; (with_reducible refine (laws_wSame.calls kj12 _ _ t324 _ _ t328 true _ ?side1 ?side2 ?side3 ?side4 A33.out).mono ?_); (case side1 => exact CS (Kd.R_reads' HO326.out).2.2); (case side2 => exact (Kd.R_reads' HO326.out).2.1); (case side3 => exact CS (Kd.R_reads' HO331.out).2.2); (case side4 => exact (Kd.R_reads' HO331.out).2.1); rintro e w' ⟨rfl, ⟨nd, rfl⟩⟩))
          go_meet
          case rel => exact ⟨_, (true), Za, H', ⟨by have := HJ12.out; first | omega | exact Nat.le_refl _⟩, ⟨VS (Kd.V_mono HO_5.out (fun _ hk => ⟨hk.1.1, hk.1.2⟩))⟩, ⟨RS (Kd.R_mono HO326.out (fun _ hk => hk.1.1))⟩, ⟨BS HB.out⟩⟩
         ·rw [if_neg c60] at H
          have c60b0 : (t327 != false) = false := by simpa using c60
          (try (have c60b1 : decide (t327 = false) = true := by simpa using c60))
          (try (have c60b2 : (t327 == false) = true := by simpa using c60))
          clear c60
          replace H := Option.bind_eq_some_iff.mp H
          obtain ⟨t344, A630, H⟩ := H
          try dsimp only at H
          have A63 := Aside0.mk A630
          clear A630
          replace H := Option.bind_eq_some_iff.mp H
          obtain ⟨t345, A640, H⟩ := H
          try dsimp only at H
          have A64 := Aside0.mk A640
          clear A640
          by_cases c65 : (t344 != t345) = true
          ·rw [if_pos c65] at H
           have c65b0 : (t344 != t345) = true := c65
           (try (have c65b1 : decide (t344 = t345) = false := by simpa using c65))
           (try (have c65b2 : (t344 == t345) = false := by simpa using c65))
           (try (have c65b3 : ¬ (t344 = t345) := by simpa using c65))
           clear c65
           have H' := Aside0.mk H
           clear H
           obtain ⟨Ao66, co66, eo66⟩ := Kd.R_slice HO326.out
           subst eo66
           obtain ⟨Ao67, co67, eo67⟩ := Kd.R_slice HO331.out
           subst eo67
           go_wp2_with (first | (go_at_call 10; (with_reducible refine (laws_wSame.calls kj12 _ _ t324 _ _ t328 true _ ?side1 ?side2 ?side3 ?side4 A33.out).mono ?_); (case side1 => exact CS (Kd.R_reads' HO326.out).2.2); (case side2 => exact (Kd.R_reads' HO326.out).2.1); (case side3 => exact CS (Kd.R_reads' HO331.out).2.2); (case side4 => exact (Kd.R_reads' HO331.out).2.1); rintro e w' ⟨rfl, ⟨nd, rfl⟩⟩) | (go_at_call 11; (with_reducible refine (impl_AreBears.calls kj12 _ _ l0 t344 _ ?side1 ?side2 A63.out).mono ?_); (case side1 => exact (Kd.C_below HR0.out (BS HB.out))); (case side2 => exact HC0.out); rintro e w' ⟨rfl, ⟨nd, rfl⟩⟩) | (go_at_call 12; (with_reducible refine (spec_AreBears.calls kj12 _ _ l0 t345 _ ?side1 ?side2 A64.out).mono ?_); (case side1 => exact (Kd.C_below HR0.out (BS HB.out))); (case side2 => exact HC0.out); rintro e w' ⟨rfl, ⟨nd, rfl⟩⟩))
           go_meet
           case rel => exact ⟨_, (true), Za, H', ⟨by have := HJ12.out; first | omega | exact Nat.le_refl _⟩, ⟨VS (Kd.V_mono HO_5.out (fun _ hk => ⟨hk.1.1, hk.1.2⟩))⟩, ⟨RS (Kd.R_mono HO326.out (fun _ hk => hk.1.1))⟩, ⟨BS HB.out⟩⟩
          ·rw [if_neg c65] at H
           have c65b0 : (t344 != t345) = false := by simpa using c65
           (try (have c65b1 : decide (t344 = t345) = true := by simpa using c65))
           (try (have c65b2 : (t344 == t345) = true := by simpa using c65))
           clear c65
           have H' := Aside0.mk H
           clear H
           obtain ⟨Ao68, co68, eo68⟩ := Kd.R_slice HO326.out
           subst eo68
           obtain ⟨Ao69, co69, eo69⟩ := Kd.R_slice HO331.out
           subst eo69
           go_wp2_with (first | (go_at_call 10; (with_reducible refine (laws_wSame.calls kj12 _ _ t324 _ _ t328 true _ ?side1 ?side2 ?side3 ?side4 A33.out).mono ?_); (case side1 => exact CS (Kd.R_reads' HO326.out).2.2); (case side2 => exact (Kd.R_reads' HO326.out).2.1); (case side3 => exact CS (Kd.R_reads' HO331.out).2.2); (case side4 => exact (Kd.R_reads' HO331.out).2.1); rintro e w' ⟨rfl, ⟨nd, rfl⟩⟩) | (go_at_call 11; (with_reducible refine (impl_AreBears.calls kj12 _ _ l0 t344 _ ?side1 ?side2 A63.out).mono ?_); (case side1 => exact (Kd.C_below HR0.out (BS HB.out))); (case side2 => exact HC0.out); rintro e w' ⟨rfl, ⟨nd, rfl⟩⟩) | (go_at_call 12; (with_reducible refine (spec_AreBears.calls kj12 _ _ l0 t345 _ ?side1 ?side2 A64.out).mono ?_); (case side1 => exact (Kd.C_below HR0.out (BS HB.out))); (case side2 => exact HC0.out); rintro e w' ⟨rfl, ⟨nd, rfl⟩⟩))
           go_meet
           case rel => exact ⟨_, ((t337 != false)), Za, H', ⟨by have := HJ12.out; first | omega | exact Nat.le_refl _⟩, ⟨VS (Kd.V_mono HO_5.out (fun _ hk => ⟨hk.1.1, hk.1.2⟩))⟩, ⟨RS (Kd.R_mono HO326.out (fun _ hk => hk.1.1))⟩, ⟨BS HB.out⟩⟩
       ·rw [if_neg c44] at H
        have c44b0 : (t336 == t338) = false := beq_eq_false_iff_ne.mpr c44
        have c44b1 : (t336 != t338) = true := bne_iff_ne.mpr c44
        have H' := Aside0.mk H
        clear H
        obtain ⟨Ao70, co70, eo70⟩ := Kd.R_slice HO326.out
        subst eo70
        obtain ⟨Ao71, co71, eo71⟩ := Kd.R_slice HO331.out
        subst eo71
        go_wp2_with (first | (go_at_call 10; (with_reducible refine (laws_wSame.calls kj12 _ _ t324 _ _ t328 true _ ?side1 ?side2 ?side3 ?side4 A33.out).mono ?_); (case side1 => exact CS (Kd.R_reads' HO326.out).2.2); (case side2 => exact (Kd.R_reads' HO326.out).2.1); (case side3 => exact CS (Kd.R_reads' HO331.out).2.2); (case side4 => exact (Kd.R_reads' HO331.out).2.1); rintro e w' ⟨rfl, ⟨nd, rfl⟩⟩))
        go_meet
        case rel => exact ⟨_, (true), Za, H', ⟨by have := HJ12.out; first | omega | exact Nat.le_refl _⟩, ⟨VS (Kd.V_mono HO_5.out (fun _ hk => ⟨hk.1.1, hk.1.2⟩))⟩, ⟨RS (Kd.R_mono HO326.out (fun _ hk => hk.1.1))⟩, ⟨BS HB.out⟩⟩
   ·replace c34 := Bool.eq_false_iff.mpr c34
    subst c34
    have H1 : (laws_FnStepsWornOfAll.j1 kj12 l0 a1 l2 l3 a4 l5 a6 l7 l8 a9 a10 a11 t324 t327 t336 t337 true) = some r := by rw [if_neg (show ¬ (false = true) by decide)] at H; exact H
    clear H
    have H := H1
    clear H1
    have H' := Aside0.mk H
    clear H
    obtain ⟨Ao72, co72, eo72⟩ := Kd.R_slice HO326.out
    subst eo72
    obtain ⟨Ao73, co73, eo73⟩ := Kd.R_slice HO331.out
    subst eo73
    go_wp2_with (first | (go_at_call 10; (with_reducible refine (laws_wSame.calls kj12 _ _ t324 _ _ t328 false _ ?side1 ?side2 ?side3 ?side4 A33.out).mono ?_); (case side1 => exact CS (Kd.R_reads' HO326.out).2.2); (case side2 => exact (Kd.R_reads' HO326.out).2.1); (case side3 => exact CS (Kd.R_reads' HO331.out).2.2); (case side4 => exact (Kd.R_reads' HO331.out).2.1); rintro e w' ⟨rfl, ⟨nd, rfl⟩⟩))
    go_meet
    case rel => exact ⟨_, (true), Za, H', ⟨by have := HJ12.out; first | omega | exact Nat.le_refl _⟩, ⟨VS (Kd.V_mono HO_5.out (fun _ hk => ⟨hk.1.1, hk.1.2⟩))⟩, ⟨RS (Kd.R_mono HO326.out (fun _ hk => hk.1.1))⟩, ⟨BS HB.out⟩⟩
 case rest =>
  go_step
  exact laws_FnStepsWornOfAll.stage1 _ _ _ _ _ _ _ _ _ _ _ _ _ _ _ _ _ _ _ _ _ _ _ _ _ _ _ _ _ _ _ _ _ _ _ _ _ _ _ _ _ _ _ _ _ _ _ _ _ _ _ _ _ _ _ _ _ _ _ _ _ _ _ _ _ _ _ _ _ _ _ _ _ _ _ _ _ _ _ _ _ _ _ _ _ _ _ _ _ _ _ _ _ _ _ _ _ _ _ _ _ _ _ _ _ _ _ _ _ _ _ _ _ _ _ _ _ _ _ _ _ _ _ _ _ _ _ _ _ _ _ _ _ _ _ _ _ _ _ _ _ _ _ _ _ _ _ _ _ _ _ _ _ _ _ _ _ _ _ _ _ _ _ _ _ _ _ _ _ _ _ _ _ _ _ _ _ _ _ _ _ htb HR0 HR2 HC2 HR3 HC3 HR7 HC7 HR8 HC8 HJ12 HC27 HO_5 HB hcut _ (by intro a_ w_ h_; go_step; exact h_)
end Go.Proofs.YtmonnbbihmpedaaGreatDoor.PFnStepsWornOfAll
