-- Written by wip/gen/mp.py of this repo (the kit's printer with our own parts): functions and their contracts.
import Derived.Test.YtmonnbbihmpedaaGreatDoorPFnStepsWornOfAllx10s0
namespace Go.Proofs.YtmonnbbihmpedaaGreatDoor.PFnStepsWornOfAll
open Go.RowKit Go.Proofs.YtmonnbbihmpedaaGreatDoorW.PrintWords Go.Proofs.YtmonnbbihmpedaaGreatDoorW.PrintLast Go.Proofs.YtmonnbbihmpedaaGreatDoorW.PrintMore
attribute [local go_sem] yielded_undef max2_int min2_int max_two min_two max_three min_three max_four min_four   -- for this text's walks alone
set_option linter.unusedVariables false
set_option linter.unusedSimpArgs false

/-! ### laws_FnStepsWornOfAll: function 3 -/
set_option maxHeartbeats 8000000 in
set_option maxRecDepth 100000 in
theorem laws_FnStepsWornOfAll.calls (k : Nat) (A0 : Option Addr) (c0 : Nat) (l0 : List Int) (a1 : Int) (A2 : Option Addr) (c2 : Nat) (l2 : List Int) (A3 : Option Addr) (c3 : Nat) (l3 : List Int) (a4 : Int) (P5_ : Nat → Prop) (A5 : Option Addr) (c5 : Nat) (l5 : List Int) (a6 : Int) (A7 : Option Addr) (c7 : Nat) (l7 : List (List Int)) (A8 : Option Addr) (c8 : Nat) (l8 : List Int) (a9 : Int) (a10 : Int) (a11 : ByteArray) (r : Bool) (w : World) (hr0 : Kd.C (Kd.int .i64) w A0 l0.length l0) (hc0 : l0.length ≤ c0) (hr2 : Kd.C (Kd.int .i64) w A2 l2.length l2) (hc2 : l2.length ≤ c2) (hr3 : Kd.C (Kd.int .i64) w A3 l3.length l3) (hc3 : l3.length ≤ c3) (hs5 : Kd.V (Kd.int .i64) 3 w w.heap.size (fun k_ => P5_ k_) (.slice A5 l5.length c5) l5) (hr7 : Kd.C (Kd.slice 3 (Kd.int .i64)) w A7 l7.length l7) (hc7 : l7.length ≤ c7) (hr8 : Kd.C (Kd.int .i64) w A8 l8.length l8) (hc8 : l8.length ≤ c8) (htb : TBB w) (h : laws_FnStepsWornOfAll.f k l0 a1 l2 l3 a4 l5 a6 l7 l8 a9 a10 a11 = some r) :
  Calls Tryz.prog 3 #[.slice A0 l0.length c0, .int .i64 a1, .slice A2 l2.length c2, .slice A3 l3.length c3, .int .i64 a4, .slice A5 l5.length c5, .int .i64 a6, .slice A7 l7.length c7, .slice A8 l8.length c8, .int .i64 a9, .int .i64 a10, .string a11] w fun e w' => e = .returned (.bool r) ∧ Below w.heap.size w w' := by
 have HR0 := Aside0.mk hr0
 have HC0 := Aside0.mk hc0
 clear hr0 hc0
 have HR2 := Aside0.mk hr2
 have HC2 := Aside0.mk hc2
 clear hr2 hc2
 have HR3 := Aside0.mk hr3
 have HC3 := Aside0.mk hc3
 clear hr3 hc3
 have HO5 := Aside0.mk (show Kd.V (Kd.int .i64) 3 w w.heap.size (fun k_ => (P5_ k_ ∨ w.heap.size ≤ k_)) (.slice A5 l5.length c5) l5 from Kd.V_mono hs5 (fun k_ hk => .inl hk))
 have HR7 := Aside0.mk hr7
 have HC7 := Aside0.mk hc7
 clear hr7 hc7
 have HR8 := Aside0.mk hr8
 have HC8 := Aside0.mk hc8
 clear hr8 hc8
 have HB := Aside0.mk (Below.refl w.heap.size w)
 have H : (if (l0.length : Int) > 10000 then (laws_FnStepsWornOfAll.j0 k l0 a1 l2 l3 a4 l5 a6 l7 l8 a9 a10 a11 true) else (if (l2.length : Int) > 10000 then (laws_FnStepsWornOfAll.j0 k l0 a1 l2 l3 a4 l5 a6 l7 l8 a9 a10 a11 true) else (if (l3.length : Int) > 10000 then (laws_FnStepsWornOfAll.j0 k l0 a1 l2 l3 a4 l5 a6 l7 l8 a9 a10 a11 true) else (if (l5.length : Int) > 10000 then (laws_FnStepsWornOfAll.j0 k l0 a1 l2 l3 a4 l5 a6 l7 l8 a9 a10 a11 true) else (if (l7.length : Int) > 10000 then (laws_FnStepsWornOfAll.j0 k l0 a1 l2 l3 a4 l5 a6 l7 l8 a9 a10 a11 true) else (if (l8.length : Int) > 10000 then (laws_FnStepsWornOfAll.j0 k l0 a1 l2 l3 a4 l5 a6 l7 l8 a9 a10 a11 true) else (laws_FnStepsWornOfAll.j0 k l0 a1 l2 l3 a4 l5 a6 l7 l8 a9 a10 a11 (decide ((a11.size : Int) > 1048576))))))))) = some r := h
 clear h
 have HC13 := Aside0.mk H
 clear H
 go_enter Tryz.func3, Tryz.ntmps3
 go_upto_region 1 with (fail)
 go_cut [128] from 128 to 128 (fun v128 wc => ∃ (kq : Nat) (x128_12 : Bool), v128 = .bool x128_12 ∧ Aside0 (laws_FnStepsWornOfAll.j0 kq l0 a1 l2 l3 a4 l5 a6 l7 l8 a9 a10 a11 x128_12 = some r) ∧ Aside0 (kq ≤ k) ∧ Aside0 (Kd.V (Kd.int .i64) 3 wc w.heap.size (fun k_ => (P5_ k_ ∨ w.heap.size ≤ k_)) (.slice A5 l5.length c5) l5) ∧ Aside0 (Below w.heap.size w wc))
 case first =>
  have H := HC13.out
  clear HC13
  by_cases c14 : (l0.length : Int) > 10000
  ·rw [if_pos c14] at H
   have c14b0 : decide (10000 < (l0.length : Int)) = true := decide_eq_true c14
   have c14b1 : decide (10000 < l0.length) = true := decide_eq_true (by omega)
   clear c14
   (first | rw [c14b0] | (simp only [i64_w, i32_w]; rw [c14b0]) | skip)
   have H' := Aside0.mk H
   clear H
   go_wp2
   go_meet
   case rel => exact ⟨_, (true), Za, H', ⟨by first | omega | exact Nat.le_refl _⟩, ⟨VS HO5.out⟩, ⟨BS HB.out⟩⟩
  ·rw [if_neg c14] at H
   have c14b0 : decide (10000 < (l0.length : Int)) = false := decide_eq_false c14
   have c14b1 : decide (10000 < l0.length) = false := decide_eq_false (by omega)
   clear c14
   (first | rw [c14b0] | (simp only [i64_w, i32_w]; rw [c14b0]) | skip)
   by_cases c15 : (l2.length : Int) > 10000
   ·rw [if_pos c15] at H
    have c15b0 : decide (10000 < (l2.length : Int)) = true := decide_eq_true c15
    have c15b1 : decide (10000 < l2.length) = true := decide_eq_true (by omega)
    clear c15
    have H' := Aside0.mk H
    clear H
    go_wp2
    go_meet
    case rel => exact ⟨_, (true), Za, H', ⟨by first | omega | exact Nat.le_refl _⟩, ⟨VS HO5.out⟩, ⟨BS HB.out⟩⟩
   ·rw [if_neg c15] at H
    have c15b0 : decide (10000 < (l2.length : Int)) = false := decide_eq_false c15
    have c15b1 : decide (10000 < l2.length) = false := decide_eq_false (by omega)
    clear c15
    by_cases c16 : (l3.length : Int) > 10000
    ·rw [if_pos c16] at H
     have c16b0 : decide (10000 < (l3.length : Int)) = true := decide_eq_true c16
     have c16b1 : decide (10000 < l3.length) = true := decide_eq_true (by omega)
     clear c16
     have H' := Aside0.mk H
     clear H
     go_wp2
     go_meet
     case rel => exact ⟨_, (true), Za, H', ⟨by first | omega | exact Nat.le_refl _⟩, ⟨VS HO5.out⟩, ⟨BS HB.out⟩⟩
    ·rw [if_neg c16] at H
     have c16b0 : decide (10000 < (l3.length : Int)) = false := decide_eq_false c16
     have c16b1 : decide (10000 < l3.length) = false := decide_eq_false (by omega)
     clear c16
     by_cases c17 : (l5.length : Int) > 10000
     ·rw [if_pos c17] at H
      have c17b0 : decide (10000 < (l5.length : Int)) = true := decide_eq_true c17
      have c17b1 : decide (10000 < l5.length) = true := decide_eq_true (by omega)
      clear c17
      have H' := Aside0.mk H
      clear H
      go_wp2
      go_meet
      case rel => exact ⟨_, (true), Za, H', ⟨by first | omega | exact Nat.le_refl _⟩, ⟨VS HO5.out⟩, ⟨BS HB.out⟩⟩
     ·rw [if_neg c17] at H
      have c17b0 : decide (10000 < (l5.length : Int)) = false := decide_eq_false c17
      have c17b1 : decide (10000 < l5.length) = false := decide_eq_false (by omega)
      clear c17
      by_cases c18 : (l7.length : Int) > 10000
      ·rw [if_pos c18] at H
       have c18b0 : decide (10000 < (l7.length : Int)) = true := decide_eq_true c18
       have c18b1 : decide (10000 < l7.length) = true := decide_eq_true (by omega)
       clear c18
       have H' := Aside0.mk H
       clear H
       go_wp2
       go_meet
       case rel => exact ⟨_, (true), Za, H', ⟨by first | omega | exact Nat.le_refl _⟩, ⟨VS HO5.out⟩, ⟨BS HB.out⟩⟩
      ·rw [if_neg c18] at H
       have c18b0 : decide (10000 < (l7.length : Int)) = false := decide_eq_false c18
       have c18b1 : decide (10000 < l7.length) = false := decide_eq_false (by omega)
       clear c18
       by_cases c19 : (l8.length : Int) > 10000
       ·rw [if_pos c19] at H
        have c19b0 : decide (10000 < (l8.length : Int)) = true := decide_eq_true c19
        have c19b1 : decide (10000 < l8.length) = true := decide_eq_true (by omega)
        clear c19
        have H' := Aside0.mk H
        clear H
        go_wp2
        go_meet
        case rel => exact ⟨_, (true), Za, H', ⟨by first | omega | exact Nat.le_refl _⟩, ⟨VS HO5.out⟩, ⟨BS HB.out⟩⟩
       ·rw [if_neg c19] at H
        have c19b0 : decide (10000 < (l8.length : Int)) = false := decide_eq_false c19
        have c19b1 : decide (10000 < l8.length) = false := decide_eq_false (by omega)
        clear c19
        have H' := Aside0.mk H
        clear H
        go_wp2
        go_meet
        case rel => exact ⟨_, (decide ((a11.size : Int) > 1048576)), Za, H', ⟨by first | omega | exact Nat.le_refl _⟩, ⟨VS HO5.out⟩, ⟨BS HB.out⟩⟩
 case rest =>
  clear HC13
  (try clear c1); (try clear c2); (try clear p2); (try clear c3); (try clear c5); (try clear c7); (try clear c8); (try clear c14); (try clear c14b0); (try clear c14b1); (try clear c15); (try clear c15b0); (try clear c15b1); (try clear c16); (try clear c16b0); (try clear c16b1); (try clear c17); (try clear c17b0); (try clear c17b1); (try clear c18); (try clear c18b0); (try clear c18b1); (try clear c19); (try clear c19b0); (try clear c19b1)
  obtain ⟨kq, x128_12, rfl, HA, HJ12, HO_5, HB⟩ := hcut
  cases kq with
  | zero => exact absurd HA.out (by simp [laws_FnStepsWornOfAll.j0])
  | succ kj12 =>
   have H := HA.out
   clear HA
   simp only [laws_FnStepsWornOfAll.j0] at H
   by_cases c20 : x128_12 = true
   ·subst c20
    have H1 : (some true) = some r := by rw [if_pos rfl] at H; exact H
    clear H
    have H := H1
    clear H1
    obtain rfl := Option.some.inj H
    go_wp2
    go_ret
    exact ⟨Zb, BS HB.out⟩
   ·replace c20 := Bool.eq_false_iff.mpr c20
    subst c20
    have H1 : ((impl_WearBy.f kj12 l0 a1 l2).bind fun bt324 => ((spec_WearBy.f kj12 l0 a1 l2).bind fun bt328 => ((impl_IsWearClimb.f kj12 l0 a1 l2).bind fun bt332 => ((spec_IsWearClimb.f kj12 l0 a1 l2).bind fun bt334 => ((impl_MostWears.f kj12 l0 a1).bind fun bt336 => ((spec_MostWears.f kj12 l0 a1).bind fun bt338 => (if (bt324.2 != bt328.2) = true then (laws_FnStepsWornOfAll.j1 kj12 l0 a1 l2 l3 a4 l5 a6 l7 l8 a9 a10 a11 bt324.1 bt324.2 bt336.1 bt336.2 true) else ((laws_wSame.f kj12 bt324.1 bt328.1).bind fun t340 => (if t340 = true then (if (bt332.2 != bt334.2) = true then (laws_FnStepsWornOfAll.j1 kj12 l0 a1 l2 l3 a4 l5 a6 l7 l8 a9 a10 a11 bt324.1 bt324.2 bt336.1 bt336.2 true) else (if (bt332.1 != bt334.1) = true then (laws_FnStepsWornOfAll.j1 kj12 l0 a1 l2 l3 a4 l5 a6 l7 l8 a9 a10 a11 bt324.1 bt324.2 bt336.1 bt336.2 true) else (if (bt336.2 != bt338.2) = true then (laws_FnStepsWornOfAll.j1 kj12 l0 a1 l2 l3 a4 l5 a6 l7 l8 a9 a10 a11 bt324.1 bt324.2 bt336.1 bt336.2 true) else (if bt336.1 = bt338.1 then (if bt332.2 = true then (if (bt324.2 != bt332.1) = true then (laws_FnStepsWornOfAll.j1 kj12 l0 a1 l2 l3 a4 l5 a6 l7 l8 a9 a10 a11 bt324.1 bt324.2 bt336.1 bt336.2 true) else ((impl_AreBears.f kj12 l0).bind fun t341 => (if t341 = true then ((impl_AreBears.f kj12 l0).bind fun t342 => ((spec_AreBears.f kj12 l0).bind fun t343 => (if (t342 != t343) = true then (laws_FnStepsWornOfAll.j1 kj12 l0 a1 l2 l3 a4 l5 a6 l7 l8 a9 a10 a11 bt324.1 bt324.2 bt336.1 bt336.2 true) else (laws_FnStepsWornOfAll.j1 kj12 l0 a1 l2 l3 a4 l5 a6 l7 l8 a9 a10 a11 bt324.1 bt324.2 bt336.1 bt336.2 (bt336.2 != (decide (a1 ≤ (l0.length : Int)))))))) else (laws_FnStepsWornOfAll.j1 kj12 l0 a1 l2 l3 a4 l5 a6 l7 l8 a9 a10 a11 bt324.1 bt324.2 bt336.1 bt336.2 true)))) else (if (bt324.2 != false) = true then (laws_FnStepsWornOfAll.j1 kj12 l0 a1 l2 l3 a4 l5 a6 l7 l8 a9 a10 a11 bt324.1 bt324.2 bt336.1 bt336.2 true) else ((impl_AreBears.f kj12 l0).bind fun t344 => ((spec_AreBears.f kj12 l0).bind fun t345 => (if (t344 != t345) = true then (laws_FnStepsWornOfAll.j1 kj12 l0 a1 l2 l3 a4 l5 a6 l7 l8 a9 a10 a11 bt324.1 bt324.2 bt336.1 bt336.2 true) else (laws_FnStepsWornOfAll.j1 kj12 l0 a1 l2 l3 a4 l5 a6 l7 l8 a9 a10 a11 bt324.1 bt324.2 bt336.1 bt336.2 (bt336.2 != false))))))) else (laws_FnStepsWornOfAll.j1 kj12 l0 a1 l2 l3 a4 l5 a6 l7 l8 a9 a10 a11 bt324.1 bt324.2 bt336.1 bt336.2 true))))) else (laws_FnStepsWornOfAll.j1 kj12 l0 a1 l2 l3 a4 l5 a6 l7 l8 a9 a10 a11 bt324.1 bt324.2 bt336.1 bt336.2 true)))))))))) = some r := by rw [if_neg (show ¬ (false = true) by decide)] at H; exact H
    clear H
    have H := H1
    clear H1
    replace H := Option.bind_eq_some_iff.mp H
    obtain ⟨⟨t324, t327⟩, A210, H⟩ := H
    try dsimp only at H
    have A21 := Aside0.mk A210
    clear A210
    replace H := Option.bind_eq_some_iff.mp H
    obtain ⟨⟨t328, t329⟩, A220, H⟩ := H
    try dsimp only at H
    have A22 := Aside0.mk A220
    clear A220
    replace H := Option.bind_eq_some_iff.mp H
    obtain ⟨⟨t332, t333⟩, A230, H⟩ := H
    try dsimp only at H
    have A23 := Aside0.mk A230
    clear A230
    replace H := Option.bind_eq_some_iff.mp H
    obtain ⟨⟨t334, t335⟩, A240, H⟩ := H
    try dsimp only at H
    have A24 := Aside0.mk A240
    clear A240
    replace H := Option.bind_eq_some_iff.mp H
    obtain ⟨⟨t336, t337⟩, A250, H⟩ := H
    try dsimp only at H
    have A25 := Aside0.mk A250
    clear A250
    replace H := Option.bind_eq_some_iff.mp H
    obtain ⟨⟨t338, t339⟩, A260, H⟩ := H
    try dsimp only at H
    have A26 := Aside0.mk A260
    clear A260
    have HC27 := Aside0.mk H
    clear H
    go_upto_region 9 with (first | ((with_reducible refine gate_callee (f := 4) rfl ?_); refine goesL_ (some 133) rfl rfl Tryz.func4 (by kernel_rfl) rfl #[.slice A0 l0.length c0, .int .i64 a1, .slice A2 l2.length c2] rfl Zc ?_; (with_reducible refine (impl_WearBy.calls kj12 _ _ l0 a1 (fun k_ => k_ < w.heap.size) _ _ l2 t324 t327 _ ?side1 ?side2 ?side3 A21.out).mono ?_); (case side1 => exact CS (Kd.C_below HR0.out HB.out)); (case side2 => exact HC0.out); (case side3 => exact Kd.V_mk HC2.out (Kd.F_below (Kd.C_F (Kd.heap_int .i64) HR2.out) (BS HB.out))); rintro e w28 ⟨v325, rfl, ho0, hb⟩; refine ⟨_, rfl, ?_⟩; have n0_ := Aside0.mk (Kd.V_elder' (VS HO_5.out) (Kd.R_base ho0) hb); have n1_ := Aside0.mk (Kd.R_lower (Kd.R_newM (M := fun k_ => (w.heap.size ≤ k_)) (Kd.R_mono (ok' := fun k_ => True) ho0 (fun _ hk_ => trivial)) (below_size (BS HB.out)) (fun k_ h_ => h_)) (below_size (BS HB.out))); have n2_ := Aside0.mk (below_step (BS HB.out) hb); clear HO_5; clear HB; have HO_5 := n0_; have HO326 := n1_; have HB := n2_; clear n0_ n1_ n2_; (try clear hb); (try clear hb2); (try clear hk); (try clear hi); (try clear ho0)) | ((with_reducible refine gate_callee (f := 5) rfl ?_); refine goesL_ (some 140) rfl rfl Tryz.func5 (by kernel_rfl) rfl #[.slice A0 l0.length c0, .int .i64 a1, .slice A2 l2.length c2] rfl Zc ?_; (with_reducible refine (spec_WearBy.calls kj12 _ _ l0 a1 _ _ l2 t328 t329 _ ?side1 ?side2 ?side3 ?side4 A22.out).mono ?_); (case side1 => exact CS (Kd.C_below HR0.out HB.out)); (case side2 => exact HC0.out); (case side3 => exact CS (Kd.C_below HR2.out HB.out)); (case side4 => exact HC2.out); rintro e w29 ⟨v330, rfl, ho0, hb⟩; refine ⟨_, rfl, ?_⟩; have n0_ := Aside0.mk (Kd.V_elder' (VS HO_5.out) (Kd.R_base ho0) hb); have n1_ := Aside0.mk (Kd.R_elder' (RS HO326.out) (Kd.R_base ho0) hb); have n2_ := Aside0.mk (Kd.R_lower (Kd.R_new' (Kd.R_newM (M := fun k_ => (w.heap.size ≤ k_)) ho0 (below_size (BS HB.out)) (fun k_ h_ => h_)) (Kd.R_lt (RS HO326.out))) (below_size (BS HB.out))); have n3_ := Aside0.mk (below_step (BS HB.out) hb); clear HO_5; clear HO326; clear HB; have HO_5 := n0_; have HO326 := n1_; have HO331 := n2_; have HB := n3_; clear n0_ n1_ n2_ n3_; (try clear hb); (try clear hb2); (try clear hk); (try clear hi); (try clear ho0)) | ((with_reducible refine gate_callee (f := 6) rfl ?_); refine goesL_ (some 147) rfl rfl Tryz.func6 (by kernel_rfl) rfl #[.slice A0 l0.length c0, .int .i64 a1, .slice A2 l2.length c2] rfl Zc ?_; (with_reducible refine (impl_IsWearClimb.calls kj12 _ _ l0 a1 _ _ l2 t332 t333 _ ?side1 ?side2 ?side3 ?side4 A23.out).mono ?_); (case side1 => exact CS (Kd.C_below HR0.out HB.out)); (case side2 => exact HC0.out); (case side3 => exact CS (Kd.C_below HR2.out HB.out)); (case side4 => exact HC2.out); rintro e w' ⟨rfl, ⟨nd, rfl⟩⟩; refine ⟨_, rfl, ?_⟩) | ((with_reducible refine gate_callee (f := 7) rfl ?_); refine goesL_ (some 154) rfl rfl Tryz.func7 (by kernel_rfl) rfl #[.slice A0 l0.length c0, .int .i64 a1, .slice A2 l2.length c2] rfl Zc ?_; (with_reducible refine (spec_IsWearClimb.calls kj12 _ _ l0 a1 _ _ l2 t334 t335 _ ?side1 ?side2 ?side3 ?side4 A24.out).mono ?_); (case side1 => exact (Kd.C_below HR0.out (BS HB.out))); (case side2 => exact HC0.out); (case side3 => exact (Kd.C_below HR2.out (BS HB.out))); (case side4 => exact HC2.out); rintro e w' ⟨rfl, ⟨nd, rfl⟩⟩; refine ⟨_, rfl, ?_⟩) | ((with_reducible refine gate_callee (f := 8) rfl ?_); refine goesL_ (some 160) rfl rfl Tryz.func8 (by kernel_rfl) rfl #[.slice A0 l0.length c0, .int .i64 a1] rfl Zc ?_; (with_reducible refine (impl_MostWears.calls kj12 _ _ l0 a1 t336 t337 _ ?side1 ?side2 A25.out).mono ?_); (case side1 => exact (Kd.C_below HR0.out (BS HB.out))); (case side2 => exact HC0.out); rintro e w30 ⟨rfl, hb⟩; refine ⟨_, rfl, ?_⟩; have n0_ := Aside0.mk (Kd.V_below (VS HO_5.out) hb); have n1_ := Aside0.mk (Kd.R_below (RS HO326.out) hb); have n2_ := Aside0.mk (Kd.R_below (RS HO331.out) hb); have n3_ := Aside0.mk (below_step (BS HB.out) hb); clear HO_5; clear HO326; clear HO331; clear HB; have HO_5 := n0_; have HO326 := n1_; have HO331 := n2_; have HB := n3_; clear n0_ n1_ n2_ n3_; (try clear hb); (try clear hb2); (try clear hk); (try clear hi)) | ((with_reducible refine gate_callee (f := 9) rfl ?_); refine goesL_ (some 166) rfl rfl Tryz.func9 (by kernel_rfl) rfl #[.slice A0 l0.length c0, .int .i64 a1] rfl Zc ?_; (with_reducible refine (spec_MostWears.calls kj12 _ _ l0 a1 t338 t339 _ ?side1 ?side2 A26.out).mono ?_); (case side1 => exact CS (Kd.C_below HR0.out HB.out)); (case side2 => exact HC0.out); rintro e w31 ⟨rfl, hb⟩; refine ⟨_, rfl, ?_⟩; have n0_ := Aside0.mk (Kd.V_below (VS HO_5.out) hb); have n1_ := Aside0.mk (Kd.R_below (RS HO326.out) hb); have n2_ := Aside0.mk (Kd.R_below (RS HO331.out) hb); have n3_ := Aside0.mk (below_step (BS HB.out) hb); clear HO_5; clear HO326; clear HO331; clear HB; have HO_5 := n0_; have HO326 := n1_; have HO331 := n2_; have HB := n3_; clear n0_ n1_ n2_ n3_; (try clear hb); (try clear hb2); (try clear hk); (try clear hi)))
    (try simp only [Act.put, List.setIfInBounds_toArray, List.set_cons_zero, List.set_cons_succ])
    exact laws_FnStepsWornOfAll.stage0 _ _ _ _ _ _ _ _ _ _ _ _ _ _ _ _ _ _ _ _ _ _ _ _ _ _ _ _ _ _ _ _ _ _ _ _ _ _ _ _ _ _ _ _ _ _ _ _ _ _ _ _ _ _ _ _ _ _ _ _ _ _ _ _ _ _ _ _ _ _ _ _ _ _ _ _ _ _ _ _ _ _ _ _ _ _ _ _ _ _ _ _ _ _ _ _ _ _ _ _ _ _ _ _ _ _ _ _ _ _ _ _ _ _ _ _ _ htb HR0 HC0 HR2 HC2 HR3 HC3 HR7 HC7 HR8 HC8 HJ12 HC27 HO_5 HO326 HO331 HB _ _ (by intro a_ w_ h_; go_step; exact h_) (by intro a_ w_ h_; go_step; exact h_)
end Go.Proofs.YtmonnbbihmpedaaGreatDoor.PFnStepsWornOfAll
