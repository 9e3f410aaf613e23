-- Written by wip/gen/mp.py of this repo (the kit's printer with our own parts): functions and their contracts.
import Derived.Test.YtbeokaghdagabaaPFnStepsMendedOfAllx11s0
namespace Go.Proofs.Ytbeokaghdagabaa.PFnStepsMendedOfAll
open Go.RowKit Go.Proofs.YtbeokaghdagabaaW.PrintWords Go.Proofs.YtbeokaghdagabaaW.PrintLast Go.Proofs.YtbeokaghdagabaaW.PrintMore
attribute [local go_sem] yielded_undef max2_int min2_int max_two min_two max_three min_three max_four min_four   -- for this text's walks alone
set_option linter.unusedVariables false
set_option linter.unusedSimpArgs false

/-! ### laws_FnStepsMendedOfAll: function 5 -/
set_option maxHeartbeats 8000000 in
set_option maxRecDepth 100000 in
theorem laws_FnStepsMendedOfAll.calls (k : Nat) (A0 : Option Addr) (c0 : Nat) (l0 : List Int) (a1 : Int) (a2 : Int) (A3 : Option Addr) (c3 : Nat) (l3 : List Int) (a4 : Int) (A5 : Option Addr) (c5 : Nat) (l5 : List Int) (a6 : Int) (r : Bool) (w : World) (hr0 : Kd.C (Kd.int .i64) w A0 l0.length l0) (hc0 : l0.length ≤ c0) (hr3 : Kd.C (Kd.int .i64) w A3 l3.length l3) (hc3 : l3.length ≤ c3) (hr5 : Kd.C (Kd.int .i64) w A5 l5.length l5) (hc5 : l5.length ≤ c5) (h : laws_FnStepsMendedOfAll.f k l0 a1 a2 l3 a4 l5 a6 = some r) :
  Calls Try.prog 5 #[.slice A0 l0.length c0, .int .i64 a1, .int .i64 a2, .slice A3 l3.length c3, .int .i64 a4, .slice A5 l5.length c5, .int .i64 a6] w fun e w' => e = .returned (.bool r) ∧ Below w.heap.size w w' := by
 have HR0 := Aside0.mk hr0
 have HC0 := Aside0.mk hc0
 clear hr0 hc0
 have HR3 := Aside0.mk hr3
 have HC3 := Aside0.mk hc3
 clear hr3 hc3
 have HR5 := Aside0.mk hr5
 have HC5 := Aside0.mk hc5
 clear hr5 hc5
 have HB := Aside0.mk (Below.refl w.heap.size w)
 have H : (if (l0.length : Int) > 10000 then (laws_FnStepsMendedOfAll.j0 k l0 a1 a2 l3 a4 l5 a6 true) else (if (l3.length : Int) > 10000 then (laws_FnStepsMendedOfAll.j0 k l0 a1 a2 l3 a4 l5 a6 true) else (laws_FnStepsMendedOfAll.j0 k l0 a1 a2 l3 a4 l5 a6 (decide ((l5.length : Int) > 10000))))) = some r := h
 clear h
 have HC8 := Aside0.mk H
 clear H
 go_enter Try.func5, Try.ntmps5
 go_upto_region 1 with (fail)
 go_cut [81] from 81 to 81 (fun v81 wc => ∃ (kq : Nat) (x81_7 : Bool), v81 = .bool x81_7 ∧ Aside0 (laws_FnStepsMendedOfAll.j0 kq l0 a1 a2 l3 a4 l5 a6 x81_7 = some r) ∧ Aside0 (kq ≤ k) ∧ Aside0 (Below w.heap.size w wc))
 case first =>
  have H := HC8.out
  clear HC8
  by_cases c9 : (l0.length : Int) > 10000
  ·rw [if_pos c9] at H
   have c9b0 : decide (10000 < (l0.length : Int)) = true := decide_eq_true c9
   have c9b1 : decide (10000 < l0.length) = true := decide_eq_true (by omega)
   clear c9
   (first | rw [c9b0] | (simp only [i64_w, i32_w]; rw [c9b0]) | skip)
   have H' := Aside0.mk H
   clear H
   go_wp2
   go_meet
   case rel => exact ⟨_, (true), Za, H', ⟨by first | omega | exact Nat.le_refl _⟩, ⟨BS HB.out⟩⟩
  ·rw [if_neg c9] at H
   have c9b0 : decide (10000 < (l0.length : Int)) = false := decide_eq_false c9
   have c9b1 : decide (10000 < l0.length) = false := decide_eq_false (by omega)
   clear c9
   (first | rw [c9b0] | (simp only [i64_w, i32_w]; rw [c9b0]) | skip)
   by_cases c10 : (l3.length : Int) > 10000
   ·rw [if_pos c10] at H
    have c10b0 : decide (10000 < (l3.length : Int)) = true := decide_eq_true c10
    have c10b1 : decide (10000 < l3.length) = true := decide_eq_true (by omega)
    clear c10
    have H' := Aside0.mk H
    clear H
    go_wp2
    go_meet
    case rel => exact ⟨_, (true), Za, H', ⟨by first | omega | exact Nat.le_refl _⟩, ⟨BS HB.out⟩⟩
   ·rw [if_neg c10] at H
    have c10b0 : decide (10000 < (l3.length : Int)) = false := decide_eq_false c10
    have c10b1 : decide (10000 < l3.length) = false := decide_eq_false (by omega)
    clear c10
    have H' := Aside0.mk H
    clear H
    go_wp2
    go_meet
    case rel => exact ⟨_, (decide ((l5.length : Int) > 10000)), Za, H', ⟨by first | omega | exact Nat.le_refl _⟩, ⟨BS HB.out⟩⟩
 case rest =>
  clear HC8
  (try clear c1); (try clear p2); (try clear c3); (try clear c5); (try clear c9); (try clear c9b0); (try clear c9b1); (try clear c10); (try clear c10b0); (try clear c10b1)
  obtain ⟨kq, x81_7, rfl, HA, HJ7, HB⟩ := hcut
  cases kq with
  | zero => exact absurd HA.out (by simp [laws_FnStepsMendedOfAll.j0])
  | succ kj7 =>
   have H := HA.out
   clear HA
   simp only [laws_FnStepsMendedOfAll.j0] at H
   by_cases c11 : x81_7 = true
   ·subst c11
    have H1 : (some true) = some r := by rw [if_pos rfl] at H; exact H
    clear H
    have H := H1
    clear H1
    obtain rfl := Option.some.inj H
    go_wp2
    go_ret
    exact ⟨Zb, BS HB.out⟩
   ·replace c11 := Bool.eq_false_iff.mpr c11
    subst c11
    have H1 : ((impl_LateMend.f kj7 l0 a1 a2).bind fun bt363 => ((spec_LateMend.f kj7 l0 a1 a2).bind fun bt367 => ((impl_MendSum.f kj7 l0 a1 a2).bind fun bt371 => ((spec_MendSum.f kj7 l0 a1 a2).bind fun bt373 => (if (bt363.2 != bt367.2) = true then (laws_FnStepsMendedOfAll.j1 kj7 l0 a1 a2 l3 a4 l5 a6 bt363.1 bt363.2 bt371.1 true) else ((laws_wSame.f kj7 bt363.1 bt367.1).bind fun t375 => (if t375 = true then (if (bt371.2 != bt373.2) = true then (laws_FnStepsMendedOfAll.j1 kj7 l0 a1 a2 l3 a4 l5 a6 bt363.1 bt363.2 bt371.1 true) else (if bt371.1 = bt373.1 then (laws_FnStepsMendedOfAll.j1 kj7 l0 a1 a2 l3 a4 l5 a6 bt363.1 bt363.2 bt371.1 (bt371.2 != bt363.2)) else (laws_FnStepsMendedOfAll.j1 kj7 l0 a1 a2 l3 a4 l5 a6 bt363.1 bt363.2 bt371.1 true))) else (laws_FnStepsMendedOfAll.j1 kj7 l0 a1 a2 l3 a4 l5 a6 bt363.1 bt363.2 bt371.1 true)))))))) = some r := by rw [if_neg (show ¬ (false = true) by decide)] at H; exact H
    clear H
    have H := H1
    clear H1
    replace H := Option.bind_eq_some_iff.mp H
    obtain ⟨⟨t363, t364⟩, A120, H⟩ := H
    try dsimp only at H
    have A12 := Aside0.mk A120
    clear A120
    replace H := Option.bind_eq_some_iff.mp H
    obtain ⟨⟨t367, t368⟩, A130, H⟩ := H
    try dsimp only at H
    have A13 := Aside0.mk A130
    clear A130
    replace H := Option.bind_eq_some_iff.mp H
    obtain ⟨⟨t371, t372⟩, A140, H⟩ := H
    try dsimp only at H
    have A14 := Aside0.mk A140
    clear A140
    replace H := Option.bind_eq_some_iff.mp H
    obtain ⟨⟨t373, t374⟩, A150, H⟩ := H
    try dsimp only at H
    have A15 := Aside0.mk A150
    clear A150
    have HC16 := Aside0.mk H
    clear H
    go_upto_region 7 with (first | ((with_reducible refine gate_callee (f := 18) rfl ?_); refine goesL_ (some 86) rfl rfl Try.func18 (by kernel_rfl) rfl #[.slice A0 l0.length c0, .int .i64 a1, .int .i64 a2] rfl Zc ?_; (with_reducible refine (impl_LateMend.calls kj7 _ _ l0 a1 a2 t363 t364 _ ?side1 ?side2 A12.out).mono ?_); (case side1 => exact CS (Kd.C_below HR0.out HB.out)); (case side2 => exact HC0.out); rintro e w17 ⟨v365, rfl, ho0, hb⟩; refine ⟨_, rfl, ?_⟩; have n0_ := Aside0.mk (Kd.R_lower ho0 (below_size (BS HB.out))); have n1_ := Aside0.mk (below_step (BS HB.out) hb); clear HB; have HO366 := n0_; have HB := n1_; clear n0_ n1_; (try clear hb); (try clear hb2); (try clear hk); (try clear hi); (try clear ho0)) | ((with_reducible refine gate_callee (f := 19) rfl ?_); refine goesL_ (some 93) rfl rfl Try.func19 (by kernel_rfl) rfl #[.slice A0 l0.length c0, .int .i64 a1, .int .i64 a2] rfl Zc ?_; (with_reducible refine (spec_LateMend.calls kj7 _ _ l0 a1 a2 t367 t368 _ ?side1 ?side2 A13.out).mono ?_); (case side1 => exact CS (Kd.C_below HR0.out HB.out)); (case side2 => exact HC0.out); rintro e w18 ⟨v369, rfl, ho0, hb⟩; refine ⟨_, rfl, ?_⟩; have n0_ := Aside0.mk (Kd.R_elder' (RS HO366.out) (Kd.R_base ho0) hb); have n1_ := Aside0.mk (Kd.R_lower (Kd.R_new' ho0 (Kd.R_lt (RS HO366.out))) (below_size (BS HB.out))); have n2_ := Aside0.mk (below_step (BS HB.out) hb); clear HO366; clear HB; have HO366 := n0_; have HO370 := n1_; have HB := n2_; clear n0_ n1_ n2_; (try clear hb); (try clear hb2); (try clear hk); (try clear hi); (try clear ho0)) | ((with_reducible refine gate_callee (f := 20) rfl ?_); refine goesL_ (some 100) rfl rfl Try.func20 (by kernel_rfl) rfl #[.slice A0 l0.length c0, .int .i64 a1, .int .i64 a2] rfl Zc ?_; (with_reducible refine (impl_MendSum.calls kj7 _ _ l0 a1 a2 t371 t372 _ ?side1 ?side2 A14.out).mono ?_); (case side1 => exact CS (Kd.C_below HR0.out HB.out)); (case side2 => exact HC0.out); rintro e w19 ⟨rfl, hb⟩; refine ⟨_, rfl, ?_⟩; have n0_ := Aside0.mk (Kd.R_below (RS HO366.out) hb); have n1_ := Aside0.mk (Kd.R_below (RS HO370.out) hb); have n2_ := Aside0.mk (below_step (BS HB.out) hb); clear HO366; clear HO370; clear HB; have HO366 := n0_; have HO370 := n1_; have HB := n2_; clear n0_ n1_ n2_; (try clear hb); (try clear hb2); (try clear hk); (try clear hi)) | ((with_reducible refine gate_callee (f := 21) rfl ?_); refine goesL_ (some 107) rfl rfl Try.func21 (by kernel_rfl) rfl #[.slice A0 l0.length c0, .int .i64 a1, .int .i64 a2] rfl Zc ?_; (with_reducible refine (spec_MendSum.calls kj7 _ _ l0 a1 a2 t373 t374 _ ?side1 ?side2 A15.out).mono ?_); (case side1 => exact CS (Kd.C_below HR0.out HB.out)); (case side2 => exact HC0.out); rintro e w20 ⟨rfl, hb⟩; refine ⟨_, rfl, ?_⟩; have n0_ := Aside0.mk (Kd.R_below (RS HO366.out) hb); have n1_ := Aside0.mk (Kd.R_below (RS HO370.out) hb); have n2_ := Aside0.mk (below_step (BS HB.out) hb); clear HO366; clear HO370; clear HB; have HO366 := n0_; have HO370 := n1_; have HB := n2_; clear n0_ n1_ n2_; (try clear hb); (try clear hb2); (try clear hk); (try clear hi)))
    (try simp only [Act.put, List.setIfInBounds_toArray, List.set_cons_zero, List.set_cons_succ])
    go_cut [133] from 133 to 133 (fun v133 wc => ∃ (kq : Nat) (x133_15 : Bool), v133 = .bool x133_15 ∧ Aside0 (laws_FnStepsMendedOfAll.j1 kq l0 a1 a2 l3 a4 l5 a6 t363 t364 t371 x133_15 = some r) ∧ Aside0 (kq ≤ kj7) ∧ Aside0 (Kd.R (Kd.int .i64) 3 wc w.heap.size (fun _ => True) v365 t363) ∧ Aside0 (Below w.heap.size w wc))
    case first =>
     have H := HC16.out
     clear HC16
     by_cases c21 : (t364 != t368) = true
     ·rw [if_pos c21] at H
      have c21b0 : (t364 != t368) = true := c21
      (try (have c21b1 : decide (t364 = t368) = false := by simpa using c21))
      (try (have c21b2 : (t364 == t368) = false := by simpa using c21))
      (try (have c21b3 : ¬ (t364 = t368) := by simpa using c21))
      clear c21
      (first | rw [c21b0] | (simp only [i64_w, i32_w]; rw [c21b0]) | skip)
      have H' := Aside0.mk H
      clear H
      go_wp2
      go_meet
      case rel => exact ⟨_, (true), Za, H', ⟨by have := HJ7.out; first | omega | exact Nat.le_refl _⟩, ⟨RS (Kd.R_mono HO366.out (fun _ hk => trivial))⟩, ⟨BS HB.out⟩⟩
     ·rw [if_neg c21] at H
      have c21b0 : (t364 != t368) = false := by simpa using c21
      (try (have c21b1 : decide (t364 = t368) = true := by simpa using c21))
      (try (have c21b2 : (t364 == t368) = true := by simpa using c21))
      clear c21
      (first | rw [c21b0] | (simp only [i64_w, i32_w]; rw [c21b0]) | skip)
      replace H := Option.bind_eq_some_iff.mp H
      obtain ⟨t375, A220, H⟩ := H
      try dsimp only at H
      have A22 := Aside0.mk A220
      clear A220
      by_cases c23 : t375 = true
      ·subst c23
       have H1 : (if (t372 != t374) = true then (laws_FnStepsMendedOfAll.j1 kj7 l0 a1 a2 l3 a4 l5 a6 t363 t364 t371 true) else (if t371 = t373 then (laws_FnStepsMendedOfAll.j1 kj7 l0 a1 a2 l3 a4 l5 a6 t363 t364 t371 (t372 != t364)) else (laws_FnStepsMendedOfAll.j1 kj7 l0 a1 a2 l3 a4 l5 a6 t363 t364 t371 true))) = some r := by rw [if_pos rfl] at H; exact H
       clear H
       have H := H1
       clear H1
       by_cases c24 : (t372 != t374) = true
       ·rw [if_pos c24] at H
        have c24b0 : (t372 != t374) = true := c24
        (try (have c24b1 : decide (t372 = t374) = false := by simpa using c24))
        (try (have c24b2 : (t372 == t374) = false := by simpa using c24))
        (try (have c24b3 : ¬ (t372 = t374) := by simpa using c24))
        clear c24
        have H' := Aside0.mk H
        clear H
        obtain ⟨Ao25, co25, eo25⟩ := Kd.R_slice HO366.out
        subst eo25
        obtain ⟨Ao26, co26, eo26⟩ := Kd.R_slice HO370.out
        subst eo26
        go_wp2_with (first | (go_at_call 22; (with_reducible refine (laws_wSame.calls kj7 _ _ t363 _ _ t367 true _ ?side1 ?side2 ?side3 ?side4 A22.out).mono ?_); (case side1 => exact CS (Kd.R_reads' HO366.out).2.2); (case side2 => exact (Kd.R_reads' HO366.out).2.1); (case side3 => exact CS (Kd.R_reads' HO370.out).2.2); (case side4 => exact (Kd.R_reads' HO370.out).2.1); rintro e w' ⟨rfl, ⟨nd, rfl⟩⟩))
        go_meet
        case rel => exact ⟨_, (true), Za, H', ⟨by have := HJ7.out; first | omega | exact Nat.le_refl _⟩, ⟨RS (Kd.R_mono HO366.out (fun _ hk => trivial))⟩, ⟨BS HB.out⟩⟩
       ·rw [if_neg c24] at H
        have c24b0 : (t372 != t374) = false := by simpa using c24
        (try (have c24b1 : decide (t372 = t374) = true := by simpa using c24))
        (try (have c24b2 : (t372 == t374) = true := by simpa using c24))
        clear c24
        by_cases c27 : t371 = t373
        ·rw [if_pos c27] at H
         have c27b0 : (t371 == t373) = true := beq_iff_eq.mpr c27
         have c27b1 : (t371 != t373) = false := bne_eq_false_iff_eq.mpr c27
         clear c27
         have H' := Aside0.mk H
         clear H
         obtain ⟨Ao28, co28, eo28⟩ := Kd.R_slice HO366.out
         subst eo28
         obtain ⟨Ao29, co29, eo29⟩ := Kd.R_slice HO370.out
         subst eo29
         go_wp2_with (first | (go_at_call 22; (with_reducible refine (laws_wSame.calls kj7 _ _ t363 _ _ t367 true _ ?side1 ?side2 ?side3 ?side4 A22.out).mono ?_); (case side1 => exact CS (Kd.R_reads' HO366.out).2.2); (case side2 => exact (Kd.R_reads' HO366.out).2.1); (case side3 => exact CS (Kd.R_reads' HO370.out).2.2); (case side4 => exact (Kd.R_reads' HO370.out).2.1); rintro e w' ⟨rfl, ⟨nd, rfl⟩⟩))
         go_meet
         case rel => exact ⟨_, ((t372 != t364)), Za, H', ⟨by have := HJ7.out; first | omega | exact Nat.le_refl _⟩, ⟨RS (Kd.R_mono HO366.out (fun _ hk => trivial))⟩, ⟨BS HB.out⟩⟩
        ·rw [if_neg c27] at H
         have c27b0 : (t371 == t373) = false := beq_eq_false_iff_ne.mpr c27
         have c27b1 : (t371 != t373) = true := bne_iff_ne.mpr c27
         have H' := Aside0.mk H
         clear H
         obtain ⟨Ao30, co30, eo30⟩ := Kd.R_slice HO366.out
         subst eo30
         obtain ⟨Ao31, co31, eo31⟩ := Kd.R_slice HO370.out
         subst eo31
         go_wp2_with (first | (go_at_call 22; (with_reducible refine (laws_wSame.calls kj7 _ _ t363 _ _ t367 true _ ?side1 ?side2 ?side3 ?side4 A22.out).mono ?_); (case side1 => exact CS (Kd.R_reads' HO366.out).2.2); (case side2 => exact (Kd.R_reads' HO366.out).2.1); (case side3 => exact CS (Kd.R_reads' HO370.out).2.2); (case side4 => exact (Kd.R_reads' HO370.out).2.1); rintro e w' ⟨rfl, ⟨nd, rfl⟩⟩))
         go_meet
         case rel => exact ⟨_, (true), Za, H', ⟨by have := HJ7.out; first | omega | exact Nat.le_refl _⟩, ⟨RS (Kd.R_mono HO366.out (fun _ hk => trivial))⟩, ⟨BS HB.out⟩⟩
      ·replace c23 := Bool.eq_false_iff.mpr c23
       subst c23
       have H1 : (laws_FnStepsMendedOfAll.j1 kj7 l0 a1 a2 l3 a4 l5 a6 t363 t364 t371 true) = some r := by rw [if_neg (show ¬ (false = true) by decide)] at H; exact H
       clear H
       have H := H1
       clear H1
       have H' := Aside0.mk H
       clear H
       obtain ⟨Ao32, co32, eo32⟩ := Kd.R_slice HO366.out
       subst eo32
       obtain ⟨Ao33, co33, eo33⟩ := Kd.R_slice HO370.out
       subst eo33
       go_wp2_with (first | (go_at_call 22; (with_reducible refine (laws_wSame.calls kj7 _ _ t363 _ _ t367 false _ ?side1 ?side2 ?side3 ?side4 A22.out).mono ?_); (case side1 => exact CS (Kd.R_reads' HO366.out).2.2); (case side2 => exact (Kd.R_reads' HO366.out).2.1); (case side3 => exact CS (Kd.R_reads' HO370.out).2.2); (case side4 => exact (Kd.R_reads' HO370.out).2.1); rintro e w' ⟨rfl, ⟨nd, rfl⟩⟩))
       go_meet
       case rel => exact ⟨_, (true), Za, H', ⟨by have := HJ7.out; first | omega | exact Nat.le_refl _⟩, ⟨RS (Kd.R_mono HO366.out (fun _ hk => trivial))⟩, ⟨BS HB.out⟩⟩
    case rest =>
     clear HC16
     (try clear c2); (try clear c11); (try clear c18); (try clear c19); (try clear c20); (try clear c21); (try clear c21b0); (try clear c21b1); (try clear c21b2); (try clear c23); (try clear c24); (try clear c24b0); (try clear c24b1); (try clear c24b2); (try clear c27); (try clear c27b0); (try clear c27b1)
     obtain ⟨kq, x133_15, rfl, HA, HJ15, HO_15, HB⟩ := hcut
     cases kq with
     | zero => exact absurd HA.out (by simp [laws_FnStepsMendedOfAll.j1])
     | succ kj15 =>
      have H := HA.out
      clear HA
      simp only [laws_FnStepsMendedOfAll.j1] at H
      by_cases c34 : x133_15 = true
      ·subst c34
       have H1 : (some false) = some r := by rw [if_pos rfl] at H; exact H
       clear H
       have H := H1
       clear H1
       obtain rfl := Option.some.inj H
       go_wp2
       go_ret
       exact ⟨Zb, BS HB.out⟩
      ·replace c34 := Bool.eq_false_iff.mpr c34
       subst c34
       have H1 : (if t364 = true then ((impl_MostWears.f kj15 l0 a1).bind fun bt376 => (if bt376.2 = true then (if (t363.length : Int) = (l0.length : Int) then (if ((t371 == 0) != (decide (bt376.1 ≥ a2))) = true then (laws_FnStepsMendedOfAll.j2 kj15 l0 a1 a2 l3 a4 l5 a6 t363 t371 0 true) else (laws_FnStepsMendedOfAll.j2 kj15 l0 a1 a2 l3 a4 l5 a6 t363 t371 0 (decide (t371 < (wrap64 (a2 - bt376.1)))))) else (laws_FnStepsMendedOfAll.j2 kj15 l0 a1 a2 l3 a4 l5 a6 t363 t371 0 true)) else (laws_FnStepsMendedOfAll.j2 kj15 l0 a1 a2 l3 a4 l5 a6 t363 t371 0 true))) else (laws_FnStepsMendedOfAll.j5 kj15 l3 a4 l5 a6)) = some r := by rw [if_neg (show ¬ (false = true) by decide)] at H; exact H
       clear H
       have H := H1
       clear H1
       have HC35 := Aside0.mk H
       clear H
       go_upto_if 134 with (fail)
       go_cut [] from 134 to 134 (fun wc => ∃ (kq : Nat), Aside0 (laws_FnStepsMendedOfAll.j5 kq l3 a4 l5 a6 = some r) ∧ Aside0 (kq ≤ kj15) ∧ Aside0 (Below w.heap.size w wc))
       case first =>
        have H := HC35.out
        clear HC35
        by_cases c36 : t364 = true
        ·subst c36
         have H1 : ((impl_MostWears.f kj15 l0 a1).bind fun bt376 => (if bt376.2 = true then (if (t363.length : Int) = (l0.length : Int) then (if ((t371 == 0) != (decide (bt376.1 ≥ a2))) = true then (laws_FnStepsMendedOfAll.j2 kj15 l0 a1 a2 l3 a4 l5 a6 t363 t371 0 true) else (laws_FnStepsMendedOfAll.j2 kj15 l0 a1 a2 l3 a4 l5 a6 t363 t371 0 (decide (t371 < (wrap64 (a2 - bt376.1)))))) else (laws_FnStepsMendedOfAll.j2 kj15 l0 a1 a2 l3 a4 l5 a6 t363 t371 0 true)) else (laws_FnStepsMendedOfAll.j2 kj15 l0 a1 a2 l3 a4 l5 a6 t363 t371 0 true))) = some r := by rw [if_pos rfl] at H; exact H
         clear H
         have H := H1
         clear H1
         replace H := Option.bind_eq_some_iff.mp H
         obtain ⟨⟨t376, t377⟩, A370, H⟩ := H
         try dsimp only at H
         have A37 := Aside0.mk A370
         clear A370
         have HC38 := Aside0.mk H
         clear H
         go_upto_region 12 with (first | ((with_reducible refine gate_callee (f := 23) rfl ?_); refine goesL_ (some 138) rfl rfl Try.func23 (by kernel_rfl) rfl #[.slice A0 l0.length c0, .int .i64 a1] rfl Zc ?_; (with_reducible refine (impl_MostWears.calls kj15 _ _ l0 a1 t376 t377 _ ?side1 ?side2 A37.out).mono ?_); (case side1 => exact CS (Kd.C_below HR0.out HB.out)); (case side2 => exact HC0.out); rintro e w39 ⟨rfl, hb⟩; refine ⟨_, rfl, ?_⟩; have n0_ := Aside0.mk (Kd.R_below (RS HO_15.out) hb); have n1_ := Aside0.mk (below_step (BS HB.out) hb); clear HO_15; clear HB; have HO_15 := n0_; have HB := n1_; clear n0_ n1_; (try clear hb); (try clear hb2); (try clear hk); (try clear hi)))
         (try simp only [Act.put, List.setIfInBounds_toArray, List.set_cons_zero, List.set_cons_succ])
         go_cut [164] from 164 to 164 (fun v164 wc => ∃ (kq : Nat) (x164_37 : Bool), v164 = .bool x164_37 ∧ Aside0 (laws_FnStepsMendedOfAll.j2 kq l0 a1 a2 l3 a4 l5 a6 t363 t371 0 x164_37 = some r) ∧ Aside0 (kq ≤ kj15) ∧ Aside0 (Kd.R (Kd.int .i64) 3 wc w.heap.size (fun _ => True) v365 t363) ∧ Aside0 (Below w.heap.size w wc))
         case first =>
          have H := HC38.out
          clear HC38
          by_cases c40 : t377 = true
          ·subst c40
           have H1 : (if (t363.length : Int) = (l0.length : Int) then (if ((t371 == 0) != (decide (t376 ≥ a2))) = true then (laws_FnStepsMendedOfAll.j2 kj15 l0 a1 a2 l3 a4 l5 a6 t363 t371 0 true) else (laws_FnStepsMendedOfAll.j2 kj15 l0 a1 a2 l3 a4 l5 a6 t363 t371 0 (decide (t371 < (wrap64 (a2 - t376)))))) else (laws_FnStepsMendedOfAll.j2 kj15 l0 a1 a2 l3 a4 l5 a6 t363 t371 0 true)) = some r := by rw [if_pos rfl] at H; exact H
           clear H
           have H := H1
           clear H1
           by_cases c41 : (t363.length : Int) = (l0.length : Int)
           ·rw [if_pos c41] at H
            have c41b0 : ((t363.length : Int) == (l0.length : Int)) = true := beq_iff_eq.mpr c41
            have c41b1 : ((t363.length : Int) != (l0.length : Int)) = false := bne_eq_false_iff_eq.mpr c41
            have c41b2 : (t363.length == l0.length) = true := by first | simpa using c41 | (simp at c41 ⊢; omega)
            clear c41
            (first | rw [c41b0] | (simp only [i64_w, i32_w]; rw [c41b0]) | skip)
            by_cases c42 : ((t371 == 0) != (decide (t376 ≥ a2))) = true
            ·rw [if_pos c42] at H
             have c42b0 : ((t371 == 0) != (decide (t376 ≥ a2))) = true := c42
             (try (have c42b1 : decide ((t371 == 0) = (decide (t376 ≥ a2))) = false := by simpa using c42))
             (try (have c42b2 : ((t371 == 0) == (decide (t376 ≥ a2))) = false := by simpa using c42))
             (try (have c42b3 : ¬ ((t371 == 0) = (decide (t376 ≥ a2))) := by simpa using c42))
             clear c42
             have H' := Aside0.mk H
             clear H
             obtain ⟨Ao43, co43, eo43⟩ := Kd.R_slice HO_15.out
             subst eo43
             go_wp2
             go_meet
             case rel => exact ⟨_, (true), Za, H', ⟨by have := HJ7.out; have := HJ15.out; first | omega | exact Nat.le_refl _⟩, ⟨RS HO_15.out⟩, ⟨BS HB.out⟩⟩
            ·rw [if_neg c42] at H
             have c42b0 : ((t371 == 0) != (decide (t376 ≥ a2))) = false := by simpa using c42
             (try (have c42b1 : decide ((t371 == 0) = (decide (t376 ≥ a2))) = true := by simpa using c42))
             (try (have c42b2 : ((t371 == 0) == (decide (t376 ≥ a2))) = true := by simpa using c42))
             clear c42
             have H' := Aside0.mk H
             clear H
             obtain ⟨Ao44, co44, eo44⟩ := Kd.R_slice HO_15.out
             subst eo44
             go_wp2
             go_meet
             case rel => exact ⟨_, (decide (t371 < (wrap64 (a2 - t376)))), Za, H', ⟨by have := HJ7.out; have := HJ15.out; first | omega | exact Nat.le_refl _⟩, ⟨RS HO_15.out⟩, ⟨BS HB.out⟩⟩
           ·rw [if_neg c41] at H
            have c41b0 : ((t363.length : Int) == (l0.length : Int)) = false := beq_eq_false_iff_ne.mpr c41
            have c41b1 : ((t363.length : Int) != (l0.length : Int)) = true := bne_iff_ne.mpr c41
            have c41b2 : (t363.length == l0.length) = false := by first | simpa using c41 | (simp at c41 ⊢; omega)
            (first | rw [c41b0] | (simp only [i64_w, i32_w]; rw [c41b0]) | skip)
            have H' := Aside0.mk H
            clear H
            obtain ⟨Ao45, co45, eo45⟩ := Kd.R_slice HO_15.out
            subst eo45
            go_wp2
            go_meet
            case rel => exact ⟨_, (true), Za, H', ⟨by have := HJ7.out; have := HJ15.out; first | omega | exact Nat.le_refl _⟩, ⟨RS HO_15.out⟩, ⟨BS HB.out⟩⟩
          ·replace c40 := Bool.eq_false_iff.mpr c40
           subst c40
           have H1 : (laws_FnStepsMendedOfAll.j2 kj15 l0 a1 a2 l3 a4 l5 a6 t363 t371 0 true) = some r := by rw [if_neg (show ¬ (false = true) by decide)] at H; exact H
           clear H
           have H := H1
           clear H1
           have H' := Aside0.mk H
           clear H
           go_wp2
           go_meet
           case rel => exact ⟨_, (true), Za, H', ⟨by have := HJ7.out; have := HJ15.out; first | omega | exact Nat.le_refl _⟩, ⟨RS HO_15.out⟩, ⟨BS HB.out⟩⟩
         case rest =>
          clear HC38
          (try clear c4); (try clear p6); (try clear c34); (try clear c36); (try clear c40); (try clear c41); (try clear c41b0); (try clear c41b1); (try clear c41b2); (try clear c42); (try clear c42b0); (try clear c42b1); (try clear c42b2)
          obtain ⟨kq, x164_37, rfl, HA, HJ37, HO_15, HB⟩ := hcut
          cases kq with
          | zero => exact absurd HA.out (by simp [laws_FnStepsMendedOfAll.j2])
          | succ kj37 =>
           have H := HA.out
           clear HA
           simp only [laws_FnStepsMendedOfAll.j2] at H
           by_cases c46 : x164_37 = true
           ·subst c46
            have H1 : (some false) = some r := by rw [if_pos rfl] at H; exact H
            clear H
            have H := H1
            clear H1
            obtain rfl := Option.some.inj H
            go_wp2
            go_ret
            exact ⟨Zb, BS HB.out⟩
           ·replace c46 := Bool.eq_false_iff.mpr c46
            subst c46
            have H1 : (laws_FnStepsMendedOfAll.l0 kj37 l0 a1 a2 l3 a4 l5 a6 t363 t371 0 t363 (t363.length : Int) 0) = some r := by rw [if_neg (show ¬ (false = true) by decide)] at H; exact H
            clear H
            have H := H1
            clear H1
            have H' := Aside0.mk H
            clear H
            obtain ⟨Ao47, co47, eo47⟩ := Kd.R_slice HO_15.out
            subst eo47
            go_wp2
            go_loopg [25, 167] kj37 (fun kq v25 v167 w' => ∃ (x25_4 : Int) (x167_4 : Int), v25 = .int .i64 x25_4 ∧ v167 = .int .i64 x167_4 ∧ Aside0 (laws_FnStepsMendedOfAll.l0 kq l0 a1 a2 l3 a4 l5 a6 t363 t371 x25_4 t363 (t363.length : Int) x167_4 = some r) ∧ Aside0 (kq ≤ kj37) ∧ Aside0 (Kd.R (Kd.int .i64) 3 w' w.heap.size (fun _ => True) (.slice Ao47 t363.length co47) t363) ∧ Aside0 (Kd.R (Kd.int .i64) 3 w' w.heap.size (fun _ => True) (.slice Ao47 t363.length co47) t363) ∧ Aside0 (Below w.heap.size w w'))
            case atStart => exact ⟨(0), (0), Za, Za, H', ⟨Nat.le_refl _⟩, ⟨RS HO_15.out⟩, ⟨RS HO_15.out⟩, ⟨BS HB.out⟩⟩
            case round =>
             clear H'
             (try clear c46)
             obtain ⟨x25_4, x167_4, rfl, rfl, HA, HK4, HO_15, HO_165, HB⟩ := hrel
             cases gk with
             | zero => exact absurd HA.out (by simp [laws_FnStepsMendedOfAll.l0])
             | succ k4 =>
              have H := HA.out
              clear HA
              simp only [laws_FnStepsMendedOfAll.l0] at H
              by_cases c48 : x167_4 < (t363.length : Int)
              ·rw [if_pos c48] at H
               have c48b0 : decide (x167_4 < (t363.length : Int)) = true := decide_eq_true c48
               clear c48
               by_cases c49 : 0 ≤ x167_4
               ·rw [if_pos c49] at H
                have c49b0 : decide (0 ≤ x167_4) = true := decide_eq_true c49
                clear c49
                by_cases c50 : x167_4 < (t363.length : Int)
                ·rw [if_pos c50] at H
                 have c50b0 : decide (x167_4 < (t363.length : Int)) = true := decide_eq_true c50
                 clear c50
                 by_cases c51 : x167_4 < (l0.length : Int)
                 ·rw [if_pos c51] at H
                  have c51b0 : decide (x167_4 < (l0.length : Int)) = true := decide_eq_true c51
                  clear c51
                  by_cases c52 : (rd t363 x167_4) < (rd l0 x167_4)
                  ·rw [if_pos c52] at H
                   have c52b0 : decide ((rd t363 x167_4) < (rd l0 x167_4)) = true := decide_eq_true c52
                   clear c52
                   obtain rfl := Option.some.inj H
                   have p378 : 0 ≤ (x167_4 : Int) := OD
                   have q378 : x167_4 < (t363.length : Int) := OD
                   obtain ⟨ad378, e378, hx378_0⟩ := Kd.at_int (Kd.R_reads' HO_165.out).2.2 x167_4 p378 q378
                   cases e378
                   replace p378 := eq_true p378
                   replace q378 := eq_true q378
                   have p379 : 0 ≤ (x167_4 : Int) := OD
                   have q379 : x167_4 < (l0.length : Int) := OD
                   obtain ⟨ad379, e379, hx379_0⟩ := Kd.at_int HR0.out x167_4 p379 q379
                   cases e379
                   replace hx379_0 := (HB.out.cell (World.block_lt_of_cell? w _ hx379_0)).trans hx379_0
                   replace p379 := eq_true p379
                   replace q379 := eq_true q379
                   go_wp2
                   go_ret
                   exact ⟨Zb, BS HB.out⟩
                  ·rw [if_neg c52] at H
                   have c52b0 : decide ((rd t363 x167_4) < (rd l0 x167_4)) = false := decide_eq_false c52
                   clear c52
                   have H' := Aside0.mk H
                   clear H
                   have p378 : 0 ≤ (x167_4 : Int) := OD
                   have q378 : x167_4 < (t363.length : Int) := OD
                   obtain ⟨ad378, e378, hx378_0⟩ := Kd.at_int (Kd.R_reads' HO_165.out).2.2 x167_4 p378 q378
                   cases e378
                   replace p378 := eq_true p378
                   replace q378 := eq_true q378
                   have p379 : 0 ≤ (x167_4 : Int) := OD
                   have q379 : x167_4 < (l0.length : Int) := OD
                   obtain ⟨ad379, e379, hx379_0⟩ := Kd.at_int HR0.out x167_4 p379 q379
                   cases e379
                   replace hx379_0 := (HB.out.cell (World.block_lt_of_cell? w _ hx379_0)).trans hx379_0
                   replace p379 := eq_true p379
                   replace q379 := eq_true q379
                   have p380 : 0 ≤ (x167_4 : Int) := OD
                   have q380 : x167_4 < (l0.length : Int) := OD
                   obtain ⟨ad380, e380, hx380_0⟩ := Kd.at_int HR0.out x167_4 p380 q380
                   obtain rfl : ad379 = ad380 := (by injection e380)
                   replace hx380_0 := (HB.out.cell (World.block_lt_of_cell? w _ hx380_0)).trans hx380_0
                   replace p380 := eq_true p380
                   replace q380 := eq_true q380
                   go_wp2
                   go_roundg k4
                   case measure => have := HJ7.out; have := HJ15.out; have := HJ37.out; have := HK4.out; omega
                   case rel => exact ⟨(wrap64 (x25_4 + (wrap64 ((rd t363 x167_4) - (rd l0 x167_4))))), (wrap64 (x167_4 + 1)), Za, Za, H', ⟨by have := HJ7.out; have := HJ15.out; have := HJ37.out; have := HK4.out; omega⟩, ⟨RS HO_15.out⟩, ⟨RS HO_165.out⟩, ⟨BS HB.out⟩⟩
                 ·rw [if_neg c51] at H
                  exact absurd H (by simp)
                ·rw [if_neg c50] at H
                 exact absurd H (by simp)
               ·rw [if_neg c49] at H
                exact absurd H (by simp)
              ·rw [if_neg c48] at H
               have c48b0 : decide (x167_4 < (t363.length : Int)) = false := decide_eq_false c48
               clear c48
               have H' := Aside0.mk H
               clear H
               go_wp2
               go_loopg [28] k4 (fun kq v28 w' => ∃ (x28_5 : Int), v28 = .int .i64 x28_5 ∧ Aside0 (laws_FnStepsMendedOfAll.l1 kq l0 a1 a2 l3 a4 l5 a6 t363 t371 x25_4 x28_5 = some r) ∧ Aside0 (kq ≤ k4) ∧ Aside0 (Kd.R (Kd.int .i64) 3 w' w.heap.size (fun _ => True) (.slice Ao47 t363.length co47) t363) ∧ Aside0 (Below w.heap.size w w'))
               case atStart => exact ⟨(0), Za, H', ⟨Nat.le_refl _⟩, ⟨RS HO_15.out⟩, ⟨BS HB.out⟩⟩
               case round =>
                clear H'
                (try clear p3); (try clear q3); (try clear hx3); (try clear p37); (try clear q37); (try clear hx37); (try clear p38); (try clear q38); (try clear hx38); (try clear c48); (try clear c48b0); (try clear c49); (try clear c49b0); (try clear c50); (try clear c50b0); (try clear c51); (try clear c51b0); (try clear c52); (try clear c52b0); (try clear hx378_0); (try clear hx379_0); (try clear hx380_0); (try clear p378); (try clear p379); (try clear p380); (try clear q378); (try clear q379); (try clear q380)
                obtain ⟨x28_5, rfl, HA, HK5, HO_15, HB⟩ := hrel
                cases gk with
                | zero => exact absurd HA.out (by simp [laws_FnStepsMendedOfAll.l1])
                | succ k5 =>
                 have H := HA.out
                 clear HA
                 simp only [laws_FnStepsMendedOfAll.l1] at H
                 by_cases c53 : (wrap64 (x28_5 + a1)) ≤ (t363.length : Int)
                 ·rw [if_pos c53] at H
                  have c53b0 : decide ((wrap64 (x28_5 + a1)) ≤ (t363.length : Int)) = true := decide_eq_true c53
                  clear c53
                  by_cases c54 : 0 ≤ x28_5
                  ·rw [if_pos c54] at H
                   have c54b0 := eq_true c54
                   have c54b1 : decide (0 ≤ x28_5) = true := decide_eq_true c54
                   clear c54
                   by_cases c55 : x28_5 ≤ (wrap64 (x28_5 + a1))
                   ·rw [if_pos c55] at H
                    have c55b0 := eq_true c55
                    have c55b1 : decide (x28_5 ≤ (wrap64 (x28_5 + a1))) = true := decide_eq_true c55
                    have c56b0 := eq_true (OD : (wrap64 (x28_5 + a1)) ≤ (t363.length : Int))
                    obtain ⟨y381, hy381⟩ : ∃ y_ : List Int, y_ = ((t363.take ((wrap64 (x28_5 + a1)) : Int).toNat).drop (x28_5 : Int).toNat) := ⟨_, rfl⟩
                    replace H : ((laws_wSum.f k5 y381).bind fun t385 => (if t385 < a2 then (some false) else (laws_FnStepsMendedOfAll.l1 k5 l0 a1 a2 l3 a4 l5 a6 t363 t371 x25_4 (wrap64 (x28_5 + 1))))) = some r := by first | (rw [hy381]; with_reducible exact H) | (have H2_ := (Option.bind_some _ _).symm.trans H; rw [hy381]; with_reducible exact H2_) | (have H2_ := (Option.bind_some _ _).symm.trans H; with_reducible exact H2_) | with_reducible exact H | (rw [hy381]; exact H) | exact H
                    have Ny381 := Aside0.mk hy381
                    clear hy381
                    replace H := Option.bind_eq_some_iff.mp H
                    obtain ⟨t385, A570, H⟩ := H
                    try dsimp only at H
                    have A57 := Aside0.mk A570
                    clear A570
                    by_cases c58 : t385 < a2
                    ·rw [if_pos c58] at H
                     have c58b0 : decide (t385 < a2) = true := decide_eq_true c58
                     clear c58
                     obtain rfl := Option.some.inj H
                     have q59 : ((wrap64 (x28_5 + a1)) : Int) ≤ ((t363.length : Int) : Int) := OD
                     obtain ⟨i059, hi059, _, hsz59, _⟩ := info_parts info3
                     have hroom59 : t363.length ≤ co47 := (Kd.R_reads' HO_15.out).2.1
                     have hC59 : Kd.C (Kd.int .i64) _ Ao47 t363.length t363 := (Kd.R_reads' HO_15.out).2.2
                     have ql59 : (x28_5 : Int) ≤ ((wrap64 (x28_5 + a1)) : Int) := OD
                     have q059 : (0 : Int) ≤ (x28_5 : Int) := OD
                     have hcut59 := cut_mid (P := Try.prog) 22 3 .i64 .i64 Try.underlying22 hi059 1 hsz59 Ao47 t363.length co47 x28_5 (wrap64 (x28_5 + a1)) q059 ql59 q59 hroom59
                     have hr59 := Kd.C_mid (lo := (x28_5 : Int).toNat) (hi := ((wrap64 (x28_5 + a1)) : Int).toNat) (c := co47) hC59 (by omega) (by omega) hroom59
                     obtain ⟨A59, hA59⟩ : ∃ A1, A1 = (if co47 = (x28_5 : Int).toNat then Ao47 else (Ao47 : Option Addr).map (·.add ((x28_5 : Int).toNat * 1))) := ⟨_, rfl⟩
                     obtain ⟨c59, hc59⟩ : ∃ c1, c1 = co47 - (x28_5 : Int).toNat := ⟨_, rfl⟩
                     have hy59 : y381.length = ((wrap64 (x28_5 + a1)) : Int).toNat - (x28_5 : Int).toNat := (by rw [Ny381.out, List.length_drop, List.length_take] <;> omega)
                     rw [show ((t363).take ((wrap64 (x28_5 + a1)) : Int).toNat).drop (x28_5 : Int).toNat = y381 from Ny381.out.symm] at hr59
                     replace hr59 : Kd.C (Kd.int .i64) _ A59 y381.length y381 := (by rw [hA59]; exact hr59)
                     rw [← hy59, ← hA59, ← hc59] at hcut59
                     have HR384 := Aside0.mk hr59
                     have HC384 := Aside0.mk (show y381.length ≤ c59 from by rw [hy59, hc59]; exact Nat.sub_le_sub_right (Nat.le_trans (by omega) hroom59) _)
                     clear hr59 hC59 hroom59 hi059 hsz59 hc59
                     have KY59 := Aside0.mk hy59
                     have KA59 := Aside0.mk hA59
                     clear hy59 hA59
                     have KL59 := Aside0.mk (show ((wrap64 (x28_5 + a1)) : Int).toNat ≤ t363.length from by omega)
                     have KM59 := Aside0.mk (show (x28_5 : Int).toNat ≤ ((wrap64 (x28_5 + a1)) : Int).toNat from by omega)
                     replace q59 := eq_true q59
                     go_wp2_with (first | ((with_reducible refine gate_callee (f := 24) rfl ?_); refine goesL_ (some 201) rfl rfl Try.func24 (by kernel_rfl) rfl #[.slice A59 y381.length c59] rfl Zc ?_; (with_reducible refine (laws_wSum.calls k5 _ _ y381 t385 _ ?side1 ?side2 A57.out).mono ?_); (case side1 => repeat (first | exact (by repeat (first | (with_reducible exact HR384.out) | (with_reducible refine Kd.C_alloc ?_ _) | (with_reducible refine Kd.C_drewN ?_ _) | (with_reducible refine Kd.C_drew ?_) | exact HR384.out)) | (with_reducible refine Kd.C_alloc ?_ _) | (with_reducible refine Kd.C_drewN ?_ _) | (with_reducible refine Kd.C_drew ?_))); (case side2 => exact HC384.out); rintro e w' ⟨rfl, ⟨nd, rfl⟩⟩; refine ⟨_, rfl, ?_⟩))
                     go_ret
                     exact ⟨Zb, BS HB.out⟩
                    ·rw [if_neg c58] at H
                     have c58b0 : decide (t385 < a2) = false := decide_eq_false c58
                     clear c58
                     have H' := Aside0.mk H
                     clear H
                     have q60 : ((wrap64 (x28_5 + a1)) : Int) ≤ ((t363.length : Int) : Int) := OD
                     obtain ⟨i060, hi060, _, hsz60, _⟩ := info_parts info3
                     have hroom60 : t363.length ≤ co47 := (Kd.R_reads' HO_15.out).2.1
                     have hC60 : Kd.C (Kd.int .i64) _ Ao47 t363.length t363 := (Kd.R_reads' HO_15.out).2.2
                     have ql60 : (x28_5 : Int) ≤ ((wrap64 (x28_5 + a1)) : Int) := OD
                     have q060 : (0 : Int) ≤ (x28_5 : Int) := OD
                     have hcut60 := cut_mid (P := Try.prog) 22 3 .i64 .i64 Try.underlying22 hi060 1 hsz60 Ao47 t363.length co47 x28_5 (wrap64 (x28_5 + a1)) q060 ql60 q60 hroom60
                     have hr60 := Kd.C_mid (lo := (x28_5 : Int).toNat) (hi := ((wrap64 (x28_5 + a1)) : Int).toNat) (c := co47) hC60 (by omega) (by omega) hroom60
                     obtain ⟨A60, hA60⟩ : ∃ A1, A1 = (if co47 = (x28_5 : Int).toNat then Ao47 else (Ao47 : Option Addr).map (·.add ((x28_5 : Int).toNat * 1))) := ⟨_, rfl⟩
                     obtain ⟨c60, hc60⟩ : ∃ c1, c1 = co47 - (x28_5 : Int).toNat := ⟨_, rfl⟩
                     have hy60 : y381.length = ((wrap64 (x28_5 + a1)) : Int).toNat - (x28_5 : Int).toNat := (by rw [Ny381.out, List.length_drop, List.length_take] <;> omega)
                     rw [show ((t363).take ((wrap64 (x28_5 + a1)) : Int).toNat).drop (x28_5 : Int).toNat = y381 from Ny381.out.symm] at hr60
                     replace hr60 : Kd.C (Kd.int .i64) _ A60 y381.length y381 := (by rw [hA60]; exact hr60)
                     rw [← hy60, ← hA60, ← hc60] at hcut60
                     have HR384 := Aside0.mk hr60
                     have HC384 := Aside0.mk (show y381.length ≤ c60 from by rw [hy60, hc60]; exact Nat.sub_le_sub_right (Nat.le_trans (by omega) hroom60) _)
                     clear hr60 hC60 hroom60 hi060 hsz60 hc60
                     have KY60 := Aside0.mk hy60
                     have KA60 := Aside0.mk hA60
                     clear hy60 hA60
                     have KL60 := Aside0.mk (show ((wrap64 (x28_5 + a1)) : Int).toNat ≤ t363.length from by omega)
                     have KM60 := Aside0.mk (show (x28_5 : Int).toNat ≤ ((wrap64 (x28_5 + a1)) : Int).toNat from by omega)
                     replace q60 := eq_true q60
                     go_wp2_with (first | ((with_reducible refine gate_callee (f := 24) rfl ?_); refine goesL_ (some 201) rfl rfl Try.func24 (by kernel_rfl) rfl #[.slice A60 y381.length c60] rfl Zc ?_; (with_reducible refine (laws_wSum.calls k5 _ _ y381 t385 _ ?side1 ?side2 A57.out).mono ?_); (case side1 => repeat (first | exact (by repeat (first | (with_reducible exact HR384.out) | (with_reducible refine Kd.C_alloc ?_ _) | (with_reducible refine Kd.C_drewN ?_ _) | (with_reducible refine Kd.C_drew ?_) | exact HR384.out)) | (with_reducible refine Kd.C_alloc ?_ _) | (with_reducible refine Kd.C_drewN ?_ _) | (with_reducible refine Kd.C_drew ?_))); (case side2 => exact HC384.out); rintro e w' ⟨rfl, ⟨nd, rfl⟩⟩; refine ⟨_, rfl, ?_⟩))
                     go_roundg k5
                     case measure => have := HJ7.out; have := HJ15.out; have := HJ37.out; have := HK4.out; have := HK5.out; omega
                     case rel => exact ⟨(wrap64 (x28_5 + 1)), Za, H', ⟨by have := HJ7.out; have := HJ15.out; have := HJ37.out; have := HK4.out; have := HK5.out; omega⟩, ⟨RS HO_15.out⟩, ⟨BS HB.out⟩⟩
                   ·rw [if_neg c55] at H
                    exact absurd H (by simp)
                  ·rw [if_neg c54] at H
                   exact absurd H (by simp)
                 ·rw [if_neg c53] at H
                  have c53b0 : decide ((wrap64 (x28_5 + a1)) ≤ (t363.length : Int)) = false := decide_eq_false c53
                  clear c53
                  by_cases c61 : x25_4 = t371
                  ·rw [if_pos c61] at H
                   have c61b0 : (x25_4 == t371) = true := beq_iff_eq.mpr c61
                   have c61b1 : (x25_4 != t371) = false := bne_eq_false_iff_eq.mpr c61
                   clear c61
                   by_cases c62 : a2 > 0
                   ·rw [if_pos c62] at H
                    have c62b0 : decide (0 < a2) = true := decide_eq_true c62
                    clear c62
                    replace H := Option.bind_eq_some_iff.mp H
                    obtain ⟨⟨t386, t387⟩, A630, H⟩ := H
                    try dsimp only at H
                    have A63 := Aside0.mk A630
                    clear A630
                    by_cases c64 : t387 = true
                    ·subst c64
                     have H1 : (if t386 > t371 then (some false) else (laws_FnStepsMendedOfAll.j5 k5 l3 a4 l5 a6)) = some r := by rw [if_pos rfl] at H; exact H
                     clear H
                     have H := H1
                     clear H1
                     by_cases c65 : t386 > t371
                     ·rw [if_pos c65] at H
                      have c65b0 : decide (t371 < t386) = true := decide_eq_true c65
                      clear c65
                      obtain rfl := Option.some.inj H
                      go_wp2_with (first | ((with_reducible refine gate_callee (f := 20) rfl ?_); refine goesL_ (some 214) rfl rfl Try.func20 (by kernel_rfl) rfl #[.slice A0 l0.length c0, .int .i64 a1, .int .i64 (wrap64 (a2 - 1))] rfl Zc ?_; (with_reducible refine (impl_MendSum.calls k5 _ _ l0 a1 (wrap64 (a2 - 1)) t386 true _ ?side1 ?side2 A63.out).mono ?_); (case side1 => exact CS (Kd.C_below HR0.out HB.out)); (case side2 => exact HC0.out); rintro e w66 ⟨rfl, hb⟩; refine ⟨_, rfl, ?_⟩; have n0_ := Aside0.mk (Kd.R_below (RS HO_15.out) hb); have n1_ := Aside0.mk (below_step (BS HB.out) hb); clear HO_15; clear HB; have HO_15 := n0_; have HB := n1_; clear n0_ n1_; (try clear hb); (try clear hb2); (try clear hk); (try clear hi)))
                      go_ret
                      exact ⟨Zb, BS HB.out⟩
                     ·rw [if_neg c65] at H
                      have c65b0 : decide (t371 < t386) = false := decide_eq_false c65
                      clear c65
                      have H' := Aside0.mk H
                      clear H
                      go_wp2_with (first | ((with_reducible refine gate_callee (f := 20) rfl ?_); refine goesL_ (some 214) rfl rfl Try.func20 (by kernel_rfl) rfl #[.slice A0 l0.length c0, .int .i64 a1, .int .i64 (wrap64 (a2 - 1))] rfl Zc ?_; (with_reducible refine (impl_MendSum.calls k5 _ _ l0 a1 (wrap64 (a2 - 1)) t386 true _ ?side1 ?side2 A63.out).mono ?_); (case side1 => exact CS (Kd.C_below HR0.out HB.out)); (case side2 => exact HC0.out); rintro e w67 ⟨rfl, hb⟩; refine ⟨_, rfl, ?_⟩; have n0_ := Aside0.mk (Kd.R_below (RS HO_15.out) hb); have n1_ := Aside0.mk (below_step (BS HB.out) hb); clear HO_15; clear HB; have HO_15 := n0_; have HB := n1_; clear n0_ n1_; (try clear hb); (try clear hb2); (try clear hk); (try clear hi)))
                      go_meet
                      case rel => exact ⟨_, H', ⟨by have := HJ7.out; have := HJ15.out; have := HJ37.out; have := HK4.out; have := HK5.out; first | omega | exact Nat.le_refl _⟩, ⟨BS HB.out⟩⟩
                    ·replace c64 := Bool.eq_false_iff.mpr c64
                     subst c64
                     have H1 : (some false) = some r := by rw [if_neg (show ¬ (false = true) by decide)] at H; exact H
                     clear H
                     have H := H1
                     clear H1
                     obtain rfl := Option.some.inj H
                     go_wp2_with (first | ((with_reducible refine gate_callee (f := 20) rfl ?_); refine goesL_ (some 214) rfl rfl Try.func20 (by kernel_rfl) rfl #[.slice A0 l0.length c0, .int .i64 a1, .int .i64 (wrap64 (a2 - 1))] rfl Zc ?_; (with_reducible refine (impl_MendSum.calls k5 _ _ l0 a1 (wrap64 (a2 - 1)) t386 false _ ?side1 ?side2 A63.out).mono ?_); (case side1 => exact CS (Kd.C_below HR0.out HB.out)); (case side2 => exact HC0.out); rintro e w68 ⟨rfl, hb⟩; refine ⟨_, rfl, ?_⟩; have n0_ := Aside0.mk (Kd.R_below (RS HO_15.out) hb); have n1_ := Aside0.mk (below_step (BS HB.out) hb); clear HO_15; clear HB; have HO_15 := n0_; have HB := n1_; clear n0_ n1_; (try clear hb); (try clear hb2); (try clear hk); (try clear hi)))
                     go_ret
                     exact ⟨Zb, BS HB.out⟩
                   ·rw [if_neg c62] at H
                    have c62b0 : decide (0 < a2) = false := decide_eq_false c62
                    clear c62
                    have H' := Aside0.mk H
                    clear H
                    go_wp2
                    go_meet
                    case rel => exact ⟨_, H', ⟨by have := HJ7.out; have := HJ15.out; have := HJ37.out; have := HK4.out; have := HK5.out; first | omega | exact Nat.le_refl _⟩, ⟨BS HB.out⟩⟩
                  ·rw [if_neg c61] at H
                   have c61b0 : (x25_4 == t371) = false := beq_eq_false_iff_ne.mpr c61
                   have c61b1 : (x25_4 != t371) = true := bne_iff_ne.mpr c61
                   obtain rfl := Option.some.inj H
                   go_wp2
                   go_ret
                   exact ⟨Zb, BS HB.out⟩
        ·replace c36 := Bool.eq_false_iff.mpr c36
         subst c36
         have H1 : (laws_FnStepsMendedOfAll.j5 kj15 l3 a4 l5 a6) = some r := by rw [if_neg (show ¬ (false = true) by decide)] at H; exact H
         clear H
         have H := H1
         clear H1
         have H' := Aside0.mk H
         clear H
         go_wp2
         go_meet
         case rel => exact ⟨_, H', ⟨by have := HJ7.out; have := HJ15.out; first | omega | exact Nat.le_refl _⟩, ⟨BS HB.out⟩⟩
       case rest =>
        go_step
        exact laws_FnStepsMendedOfAll.stage0 _ _ _ _ _ _ _ _ _ _ _ _ _ _ _ _ _ _ _ _ _ _ _ _ _ _ _ _ _ _ _ _ _ _ _ _ _ _ _ _ _ _ _ _ _ _ _ _ _ _ _ _ _ _ _ _ _ _ _ _ _ _ _ _ _ _ _ _ _ _ _ _ _ _ _ _ _ _ _ _ _ _ _ _ _ _ _ _ _ _ _ _ _ _ _ _ _ _ _ _ _ _ _ _ _ _ _ _ _ _ _ _ _ _ _ _ _ _ _ _ _ _ _ _ _ _ _ _ _ _ _ _ _ _ _ _ _ _ _ _ _ _ _ _ _ _ _ _ _ _ _ _ _ _ _ _ _ _ _ _ _ _ HR3 HC3 HR5 HC5 HJ7 HJ15 HC35 hcut
end Go.Proofs.Ytbeokaghdagabaa.PFnStepsMendedOfAll
