-- Written by wip/gen/mp.py of this repo (the kit's printer with our own parts): functions and their contracts.
import Derived.Test.YtbeokaghdagabaaPFnStepsMendedOfAllx0
import Derived.Test.YtbeokaghdagabaaPFnStepsMendedOfAllx1
import Derived.Test.YtbeokaghdagabaaPFnStepsMendedOfAllx2
import Derived.Test.YtbeokaghdagabaaPFnStepsMendedOfAllx3
import Derived.Test.YtbeokaghdagabaaPFnStepsMendedOfAllx4
namespace Go.Proofs.Ytbeokaghdagabaa.PFnStepsMendedOfAll
open Go.RowKit Go.Proofs.YtbeokaghdagabaaW.PrintWords Go.Proofs.YtbeokaghdagabaaW.PrintLast Go.Proofs.YtbeokaghdagabaaW.PrintMore
attribute [local go_sem] max2_int min2_int max_two min_two max_three min_three max_four min_four   -- for this text's walks alone
set_option linter.unusedVariables false
set_option linter.unusedSimpArgs false

/-! ### spec_IdleBears: function 26 -/
def spec_IdleBears.l0 : Nat → List Int → Int → List Int → Int → Option (List Int × Bool)
 | 0, _, _, _, _ => none
 | k + 1, x0, x1, x6, x7 => if x7 ≤ (x0.length : Int) then ((spec_weLose.f x0 x7).bind fun t232 => ((spec_weMost.f k t232 x1).bind fun t235 => ((spec_weMost.f k x0 x1).bind fun t236 => (if t235 = t236 then (if x6.length < 17592186044416 then (spec_IdleBears.l0 k x0 x1 (x6 ++ [x7]) (wrap64 (x7 + 1))) else (none)) else (spec_IdleBears.l0 k x0 x1 x6 (wrap64 (x7 + 1))))))) else (some (x6, true))
def spec_IdleBears.f (k : Nat) (l0 : List Int) (a1 : Int) : Option (List Int × Bool) := (spec_weEnds.f k l0 a1).bind fun t231 => (if t231 = true then (spec_IdleBears.l0 k l0 a1 ([] : List Int) 1) else (some (([] : List Int), false)))
set_option maxHeartbeats 8000000 in
set_option maxRecDepth 100000 in
theorem spec_IdleBears.calls (k : Nat) (A0 : Option Addr) (c0 : Nat) (l0 : List Int) (a1 : Int) (r1 : List Int) (r2 : Bool) (w : World) (hr0 : Kd.C (Kd.int .i64) w A0 l0.length l0) (hc0 : l0.length ≤ c0) (h : spec_IdleBears.f k l0 a1 = some (r1, r2)) :
  Calls Try.prog 26 #[.slice A0 l0.length c0, .int .i64 a1] w fun e w' => ∃ v0_ : Value, e = .returned (.tuple #[v0_, .bool r2]) ∧ Kd.R (Kd.int .i64) 3 w' w.heap.size (fun _ => True) v0_ r1 ∧ Below w.heap.size w w' := by
 have HR0 := Aside0.mk hr0
 have HC0 := Aside0.mk hc0
 clear hr0 hc0
 have HB := Aside0.mk (Below.refl w.heap.size w)
 have H : ((spec_weEnds.f k l0 a1).bind fun t231 => (if t231 = true then (spec_IdleBears.l0 k l0 a1 ([] : List Int) 1) else (some (([] : List Int), false)))) = some (r1, r2) := h
 clear h
 replace H := Option.bind_eq_some_iff.mp H
 obtain ⟨t231, A30, H⟩ := H
 try dsimp only at H
 have A3 := Aside0.mk A30
 clear A30
 by_cases c4 : t231 = true
 ·subst c4
  have H1 : (spec_IdleBears.l0 k l0 a1 ([] : List Int) 1) = some (r1, r2) := by rw [if_pos rfl] at H; exact H
  clear H
  have H := H1
  clear H1
  have H' := Aside0.mk H
  clear H
  go_enter Try.func26, Try.ntmps26
  go_wp2_with (first | ((with_reducible refine gate_callee (f := 50) rfl ?_); refine goesL_ (some 10) rfl rfl Try.func50 (by kernel_rfl) rfl #[.slice A0 l0.length c0, .int .i64 a1] rfl Zc ?_; (with_reducible refine (spec_weEnds.calls k _ _ l0 a1 true _ ?side1 ?side2 A3.out).mono ?_); (case side1 => exact CS HR0.out); (case side2 => exact HC0.out); rintro e w' ⟨rfl, ⟨nd, rfl⟩⟩; refine ⟨_, rfl, ?_⟩))
  go_loopg [6, 7] k (fun kq v6 v7 w' => ∃ (x6_1 : List Int) (x7_1 : Int), v7 = .int .i64 x7_1 ∧ Aside0 (spec_IdleBears.l0 kq l0 a1 x6_1 x7_1 = some (r1, r2)) ∧ Aside0 (kq ≤ k) ∧ Aside0 (Kd.R (Kd.int .i64) 3 w' w.heap.size (fun _ => True) v6 x6_1) ∧ Aside0 (Below w.heap.size w w'))
  case atStart => exact ⟨(([] : List Int)), (1), Za, H', ⟨Nat.le_refl _⟩, ⟨by first | exact Kd.R_nil _ _ _ _ _ | exact Kd.N_nil _ _ _ _ _ | exact Kd.V_nil _ _ _ _ _ | exact Kd.Q_nil _ _ _ _ _ | exact Kd.S_nil _ _ _ _ _⟩, ⟨BS HB.out⟩⟩
  case round =>
   clear H'
   (try clear c2); (try clear p2); (try clear c4)
   obtain ⟨x6_1, x7_1, rfl, HA, HK1, HO_6, HB⟩ := hrel
   cases gk with
   | zero => exact absurd HA.out (by simp [spec_IdleBears.l0])
   | succ k1 =>
    have H := HA.out
    clear HA
    simp only [spec_IdleBears.l0] at H
    by_cases c5 : x7_1 ≤ (l0.length : Int)
    ·rw [if_pos c5] at H
     have c5b0 : decide (x7_1 ≤ (l0.length : Int)) = true := decide_eq_true c5
     clear c5
     replace H := Option.bind_eq_some_iff.mp H
     obtain ⟨t232, A60, H⟩ := H
     try dsimp only at H
     have A6 := Aside0.mk A60
     clear A60
     replace H := Option.bind_eq_some_iff.mp H
     obtain ⟨t235, A70, H⟩ := H
     try dsimp only at H
     have A7 := Aside0.mk A70
     clear A70
     replace H := Option.bind_eq_some_iff.mp H
     obtain ⟨t236, A80, H⟩ := H
     try dsimp only at H
     have A8 := Aside0.mk A80
     clear A80
     by_cases c9 : t235 = t236
     ·rw [if_pos c9] at H
      have c9b0 : (t235 == t236) = true := beq_iff_eq.mpr c9
      have c9b1 : (t235 != t236) = false := bne_eq_false_iff_eq.mpr c9
      clear c9
      by_cases c10 : x6_1.length < 17592186044416
      ·rw [if_pos c10] at H
       have LMc10 := Aside0.mk c10
       clear c10
       obtain ⟨y237, hy237⟩ : ∃ y_ : List Int, y_ = (x6_1 ++ [x7_1]) := ⟨_, rfl⟩
       replace H : (spec_IdleBears.l0 k1 l0 a1 y237 (wrap64 (x7_1 + 1))) = some (r1, r2) := by first | (rw [hy237]; with_reducible exact H) | (have H2_ := (Option.bind_some _ _).symm.trans H; rw [hy237]; with_reducible exact H2_) | (have H2_ := (Option.bind_some _ _).symm.trans H; with_reducible exact H2_) | with_reducible exact H | (rw [hy237]; exact H) | exact H
       have Ny237 := Aside0.mk hy237
       clear hy237
       have H' := Aside0.mk H
       clear H
       go_wp2_with (first | ((with_reducible refine gate_callee (f := 56) rfl ?_); refine goesL_ (some 20) rfl rfl Try.func56 (by kernel_rfl) rfl #[.slice A0 l0.length c0, .int .i64 x7_1] rfl Zc ?_; (with_reducible refine (spec_weLose.calls _ _ l0 x7_1 t232 _ ?side1 ?side2 A6.out).mono ?_); (case side1 => exact CS (Kd.C_below HR0.out HB.out)); (case side2 => exact HC0.out); rintro e w11 ⟨v233, rfl, ho0, hb⟩; refine ⟨_, rfl, ?_⟩; have n0_ := Aside0.mk (Kd.R_elder' (RS HO_6.out) (Kd.R_base ho0) hb); have n1_ := Aside0.mk (Kd.R_lower (Kd.R_new' ho0 (Kd.R_lt (RS HO_6.out))) (below_size (BS HB.out))); have n2_ := Aside0.mk (below_step (BS HB.out) hb); clear HO_6; clear HB; have HO_6 := n0_; have HO234 := n1_; have HB := n2_; clear n0_ n1_ n2_; (try clear hb); (try clear hb2); (try clear hk); (try clear hi); (try clear ho0); obtain ⟨Ao12, co12, eo12⟩ := Kd.R_slice HO234.out; subst eo12) | ((with_reducible refine gate_callee (f := 55) rfl ?_); refine goesL_ (some 22) rfl rfl Try.func55 (by kernel_rfl) rfl #[.slice Ao12 t232.length co12, .int .i64 a1] rfl Zc ?_; (with_reducible refine (spec_weMost.calls k1 _ _ t232 a1 t235 _ ?side1 ?side2 A7.out).mono ?_); (case side1 => exact CS (Kd.R_reads' HO234.out).2.2); (case side2 => exact (Kd.R_reads' HO234.out).2.1); rintro e w13 ⟨rfl, hb⟩; refine ⟨_, rfl, ?_⟩; have n0_ := Aside0.mk (Kd.R_below (RS HO_6.out) hb); have n1_ := Aside0.mk (Kd.R_below (RS HO234.out) hb); have n2_ := Aside0.mk (below_step (BS HB.out) hb); clear HO_6; clear HO234; clear HB; have HO_6 := n0_; have HO234 := n1_; have HB := n2_; clear n0_ n1_ n2_; (try clear hb); (try clear hb2); (try clear hk); (try clear hi)) | ((with_reducible refine gate_callee (f := 55) rfl ?_); refine goesL_ (some 25) rfl rfl Try.func55 (by kernel_rfl) rfl #[.slice A0 l0.length c0, .int .i64 a1] rfl Zc ?_; (with_reducible refine (spec_weMost.calls k1 _ _ l0 a1 t236 _ ?side1 ?side2 A8.out).mono ?_); (case side1 => exact CS (Kd.C_below HR0.out HB.out)); (case side2 => exact HC0.out); rintro e w14 ⟨rfl, hb⟩; refine ⟨_, rfl, ?_⟩; have n0_ := Aside0.mk (Kd.R_below (RS HO_6.out) hb); have n1_ := Aside0.mk (Kd.R_below (RS HO234.out) hb); have n2_ := Aside0.mk (below_step (BS HB.out) hb); clear HO_6; clear HO234; clear HB; have HO_6 := n0_; have HO234 := n1_; have HB := n2_; clear n0_ n1_ n2_; (try clear hb); (try clear hb2); (try clear hk); (try clear hi)) | ((with_reducible refine gate_builtin (b := .append) (xs := #[.tmp 27, .tmp 29]) rfl ?_); at_builtin; refine Kd.R_append (Kd.int .i64) (w0 := w) w.heap.size rfl (.tmp 27) (.tmp 29) 22 3 (.int .i64 0) 8 rfl Try.underlying22 info3 rfl (by decide) (by omega) u6 x6_1 x7_1 [.int .i64 x7_1] (fun k_ => some k_ ≠ (.slice Ao12 t232.length co12 : Value).ownBlock) (fun _ => False) rfl rfl ?aP (fun _ hk => hk.elim) ?aF ?aO ?aB ?aS ?aL ?_; (case aP => exact rfl); (case aB => exact (BS HB.out)); (case aF => exact (fun k_ hk => Kd.fresh' (Kd.R_lt (RS HO234.out)) k_ hk)); (case aO => exact (RS (Kd.R_mono HO_6.out (fun _ hk => hk.2)))); (case aS => exact (below_size (BS HB.out))); (case aL => have := LMc10.out; omega); intro v238 w15 ho hb hg hat; rw [← Ny237.out] at ho; have n0_ := Aside0.mk (Kd.R_after (ok := (fun _ => True)) (RS HO234.out) hg hat); have n1_ := Aside0.mk (hb); have n2_ := Aside0.mk (ho); clear HO234; clear HB; clear HO_6; have HO234 := n0_; have HB := n1_; have HO239 := n2_; clear n0_ n1_ n2_; clear ho hb hg hat))
       go_roundg k1
       case measure => have := HK1.out; omega
       case rel => exact ⟨(y237), (wrap64 (x7_1 + 1)), Za, H', ⟨by have := HK1.out; omega⟩, ⟨RS (Kd.R_mono HO239.out (fun _ hk => trivial))⟩, ⟨BS HB.out⟩⟩
      ·rw [if_neg c10] at H
       exact absurd H (by simp)
     ·rw [if_neg c9] at H
      have c9b0 : (t235 == t236) = false := beq_eq_false_iff_ne.mpr c9
      have c9b1 : (t235 != t236) = true := bne_iff_ne.mpr c9
      have H' := Aside0.mk H
      clear H
      go_wp2_with (first | ((with_reducible refine gate_callee (f := 56) rfl ?_); refine goesL_ (some 20) rfl rfl Try.func56 (by kernel_rfl) rfl #[.slice A0 l0.length c0, .int .i64 x7_1] rfl Zc ?_; (with_reducible refine (spec_weLose.calls _ _ l0 x7_1 t232 _ ?side1 ?side2 A6.out).mono ?_); (case side1 => exact CS (Kd.C_below HR0.out HB.out)); (case side2 => exact HC0.out); rintro e w16 ⟨v233, rfl, ho0, hb⟩; refine ⟨_, rfl, ?_⟩; have n0_ := Aside0.mk (Kd.R_elder' (RS HO_6.out) (Kd.R_base ho0) hb); have n1_ := Aside0.mk (Kd.R_lower (Kd.R_new' ho0 (Kd.R_lt (RS HO_6.out))) (below_size (BS HB.out))); have n2_ := Aside0.mk (below_step (BS HB.out) hb); clear HO_6; clear HB; have HO_6 := n0_; have HO234 := n1_; have HB := n2_; clear n0_ n1_ n2_; (try clear hb); (try clear hb2); (try clear hk); (try clear hi); (try clear ho0); obtain ⟨Ao17, co17, eo17⟩ := Kd.R_slice HO234.out; subst eo17) | ((with_reducible refine gate_callee (f := 55) rfl ?_); refine goesL_ (some 22) rfl rfl Try.func55 (by kernel_rfl) rfl #[.slice Ao17 t232.length co17, .int .i64 a1] rfl Zc ?_; (with_reducible refine (spec_weMost.calls k1 _ _ t232 a1 t235 _ ?side1 ?side2 A7.out).mono ?_); (case side1 => exact CS (Kd.R_reads' HO234.out).2.2); (case side2 => exact (Kd.R_reads' HO234.out).2.1); rintro e w18 ⟨rfl, hb⟩; refine ⟨_, rfl, ?_⟩; have n0_ := Aside0.mk (Kd.R_below (RS HO_6.out) hb); have n1_ := Aside0.mk (Kd.R_below (RS HO234.out) hb); have n2_ := Aside0.mk (below_step (BS HB.out) hb); clear HO_6; clear HO234; clear HB; have HO_6 := n0_; have HO234 := n1_; have HB := n2_; clear n0_ n1_ n2_; (try clear hb); (try clear hb2); (try clear hk); (try clear hi)) | ((with_reducible refine gate_callee (f := 55) rfl ?_); refine goesL_ (some 25) rfl rfl Try.func55 (by kernel_rfl) rfl #[.slice A0 l0.length c0, .int .i64 a1] rfl Zc ?_; (with_reducible refine (spec_weMost.calls k1 _ _ l0 a1 t236 _ ?side1 ?side2 A8.out).mono ?_); (case side1 => exact CS (Kd.C_below HR0.out HB.out)); (case side2 => exact HC0.out); rintro e w19 ⟨rfl, hb⟩; refine ⟨_, rfl, ?_⟩; have n0_ := Aside0.mk (Kd.R_below (RS HO_6.out) hb); have n1_ := Aside0.mk (Kd.R_below (RS HO234.out) hb); have n2_ := Aside0.mk (below_step (BS HB.out) hb); clear HO_6; clear HO234; clear HB; have HO_6 := n0_; have HO234 := n1_; have HB := n2_; clear n0_ n1_ n2_; (try clear hb); (try clear hb2); (try clear hk); (try clear hi)))
      go_roundg k1
      case measure => have := HK1.out; omega
      case rel => exact ⟨(x6_1), (wrap64 (x7_1 + 1)), Za, H', ⟨by have := HK1.out; omega⟩, ⟨RS (Kd.R_mono HO_6.out (fun _ hk => trivial))⟩, ⟨BS HB.out⟩⟩
    ·rw [if_neg c5] at H
     have c5b0 : decide (x7_1 ≤ (l0.length : Int)) = false := decide_eq_false c5
     clear c5
     simp only [Option.some.injEq, Prod.mk.injEq] at H
     obtain ⟨rfl, rfl⟩ := H
     go_wp2
     go_ret2
     exact ⟨_, Zb, RS HO_6.out, BS HB.out⟩
 ·replace c4 := Bool.eq_false_iff.mpr c4
  subst c4
  have H1 : (some (([] : List Int), false)) = some (r1, r2) := by rw [if_neg (show ¬ (false = true) by decide)] at H; exact H
  clear H
  have H := H1
  clear H1
  simp only [Option.some.injEq, Prod.mk.injEq] at H
  obtain ⟨rfl, rfl⟩ := H
  go_enter Try.func26, Try.ntmps26
  go_wp2_with (first | ((with_reducible refine gate_callee (f := 50) rfl ?_); refine goesL_ (some 10) rfl rfl Try.func50 (by kernel_rfl) rfl #[.slice A0 l0.length c0, .int .i64 a1] rfl Zc ?_; (with_reducible refine (spec_weEnds.calls k _ _ l0 a1 false _ ?side1 ?side2 A3.out).mono ?_); (case side1 => exact CS HR0.out); (case side2 => exact HC0.out); rintro e w' ⟨rfl, ⟨nd, rfl⟩⟩; refine ⟨_, rfl, ?_⟩))
  go_ret2
  exact ⟨_, Zb, by first | exact Kd.R_nil _ _ _ _ _ | exact Kd.N_nil _ _ _ _ _ | exact Kd.V_nil _ _ _ _ _ | exact Kd.Q_nil _ _ _ _ _ | exact Kd.S_nil _ _ _ _ _, BS HB.out⟩

/-! ### impl_WorstStepToLose: function 27 -/
def impl_WorstStepToLose.l0 : Nat → List Int → Int → Int → Int → Int → Option (Int × Int × Bool)
 | 0, _, _, _, _, _ => none
 | k + 1, x0, x1, x7, x8, x9 => if x9 ≤ (x0.length : Int) then ((impl_losing.f x0 x9).bind fun t241 => ((impl_mostWears.f k t241 x1).bind fun t244 => (if x9 = 1 then (impl_WorstStepToLose.l0 k x0 x1 x9 t244 (wrap64 (x9 + 1))) else (if t244 < x8 then (impl_WorstStepToLose.l0 k x0 x1 x9 t244 (wrap64 (x9 + 1))) else (impl_WorstStepToLose.l0 k x0 x1 x7 x8 (wrap64 (x9 + 1))))))) else (some (x7, x8, true))
def impl_WorstStepToLose.f (k : Nat) (l0 : List Int) (a1 : Int) : Option (Int × Int × Bool) := (impl_hasParts.f k l0 a1).bind fun t240 => (if t240 = true then (impl_WorstStepToLose.l0 k l0 a1 0 0 1) else (some (0, 0, false)))
set_option maxHeartbeats 8000000 in
set_option maxRecDepth 100000 in
theorem impl_WorstStepToLose.calls (k : Nat) (A0 : Option Addr) (c0 : Nat) (l0 : List Int) (a1 : Int) (r1 : Int) (r2 : Int) (r3 : Bool) (w : World) (hr0 : Kd.C (Kd.int .i64) w A0 l0.length l0) (hc0 : l0.length ≤ c0) (h : impl_WorstStepToLose.f k l0 a1 = some (r1, r2, r3)) :
  Calls Try.prog 27 #[.slice A0 l0.length c0, .int .i64 a1] w fun e w' => e = .returned (.tuple #[.int .i64 r1, .int .i64 r2, .bool r3]) ∧ Below w.heap.size w w' := by
 have HR0 := Aside0.mk hr0
 have HC0 := Aside0.mk hc0
 clear hr0 hc0
 have HB := Aside0.mk (Below.refl w.heap.size w)
 have H : ((impl_hasParts.f k l0 a1).bind fun t240 => (if t240 = true then (impl_WorstStepToLose.l0 k l0 a1 0 0 1) else (some (0, 0, false)))) = some (r1, r2, r3) := h
 clear h
 replace H := Option.bind_eq_some_iff.mp H
 obtain ⟨t240, A30, H⟩ := H
 try dsimp only at H
 have A3 := Aside0.mk A30
 clear A30
 by_cases c4 : t240 = true
 ·subst c4
  have H1 : (impl_WorstStepToLose.l0 k l0 a1 0 0 1) = some (r1, r2, r3) := by rw [if_pos rfl] at H; exact H
  clear H
  have H := H1
  clear H1
  have H' := Aside0.mk H
  clear H
  go_enter Try.func27, Try.ntmps27
  go_wp2_with (first | ((with_reducible refine gate_callee (f := 48) rfl ?_); refine goesL_ (some 13) rfl rfl Try.func48 (by kernel_rfl) rfl #[.slice A0 l0.length c0, .int .i64 a1] rfl Zc ?_; (with_reducible refine (impl_hasParts.calls k _ _ l0 a1 true _ ?side1 ?side2 A3.out).mono ?_); (case side1 => exact CS HR0.out); (case side2 => exact HC0.out); rintro e w' ⟨rfl, ⟨nd, rfl⟩⟩; refine ⟨_, rfl, ?_⟩))
  go_loopg [7, 8, 9] k (fun kq v7 v8 v9 w' => ∃ (x7_1 : Int) (x8_1 : Int) (x9_1 : Int), v7 = .int .i64 x7_1 ∧ v8 = .int .i64 x8_1 ∧ v9 = .int .i64 x9_1 ∧ Aside0 (impl_WorstStepToLose.l0 kq l0 a1 x7_1 x8_1 x9_1 = some (r1, r2, r3)) ∧ Aside0 (kq ≤ k) ∧ Aside0 (Below w.heap.size w w'))
  case atStart => exact ⟨(0), (0), (1), Za, Za, Za, H', ⟨Nat.le_refl _⟩, ⟨BS HB.out⟩⟩
  case round =>
   clear H'
   (try clear c2); (try clear p2); (try clear c4)
   obtain ⟨x7_1, x8_1, x9_1, rfl, rfl, rfl, HA, HK1, HB⟩ := hrel
   cases gk with
   | zero => exact absurd HA.out (by simp [impl_WorstStepToLose.l0])
   | succ k1 =>
    have H := HA.out
    clear HA
    simp only [impl_WorstStepToLose.l0] at H
    by_cases c5 : x9_1 ≤ (l0.length : Int)
    ·rw [if_pos c5] at H
     have c5b0 : decide (x9_1 ≤ (l0.length : Int)) = true := decide_eq_true c5
     clear c5
     replace H := Option.bind_eq_some_iff.mp H
     obtain ⟨t241, A60, H⟩ := H
     try dsimp only at H
     have A6 := Aside0.mk A60
     clear A60
     replace H := Option.bind_eq_some_iff.mp H
     obtain ⟨t244, A70, H⟩ := H
     try dsimp only at H
     have A7 := Aside0.mk A70
     clear A70
     by_cases c8 : x9_1 = 1
     ·rw [if_pos c8] at H
      have c8b0 : (x9_1 == 1) = true := beq_iff_eq.mpr c8
      have c8b1 : (x9_1 != 1) = false := bne_eq_false_iff_eq.mpr c8
      clear c8
      have H' := Aside0.mk H
      clear H
      go_wp2_with (first | ((with_reducible refine gate_callee (f := 54) rfl ?_); refine goesL_ (some 23) rfl rfl Try.func54 (by kernel_rfl) rfl #[.slice A0 l0.length c0, .int .i64 x9_1] rfl Zc ?_; (with_reducible refine (impl_losing.calls _ _ l0 x9_1 t241 _ ?side1 ?side2 A6.out).mono ?_); (case side1 => exact CS (Kd.C_below HR0.out HB.out)); (case side2 => exact HC0.out); rintro e w9 ⟨v242, rfl, ho0, hb⟩; refine ⟨_, rfl, ?_⟩; have n0_ := Aside0.mk (Kd.R_lower ho0 (below_size (BS HB.out))); have n1_ := Aside0.mk (below_step (BS HB.out) hb); clear HB; have HO243 := n0_; have HB := n1_; clear n0_ n1_; (try clear hb); (try clear hb2); (try clear hk); (try clear hi); (try clear ho0); obtain ⟨Ao10, co10, eo10⟩ := Kd.R_slice HO243.out; subst eo10) | ((with_reducible refine gate_callee (f := 53) rfl ?_); refine goesL_ (some 25) rfl rfl Try.func53 (by kernel_rfl) rfl #[.slice Ao10 t241.length co10, .int .i64 a1] rfl Zc ?_; (with_reducible refine (impl_mostWears.calls k1 _ _ t241 a1 t244 _ ?side1 ?side2 A7.out).mono ?_); (case side1 => exact CS (Kd.R_reads' HO243.out).2.2); (case side2 => exact (Kd.R_reads' HO243.out).2.1); rintro e w11 ⟨rfl, hb⟩; refine ⟨_, rfl, ?_⟩; have n0_ := Aside0.mk (Kd.R_below (RS HO243.out) hb); have n1_ := Aside0.mk (below_step (BS HB.out) hb); clear HO243; clear HB; have HO243 := n0_; have HB := n1_; clear n0_ n1_; (try clear hb); (try clear hb2); (try clear hk); (try clear hi)))
      go_roundg k1
      case measure => have := HK1.out; omega
      case rel => exact ⟨(x9_1), (t244), (wrap64 (x9_1 + 1)), Za, Za, Za, H', ⟨by have := HK1.out; omega⟩, ⟨BS HB.out⟩⟩
     ·rw [if_neg c8] at H
      have c8b0 : (x9_1 == 1) = false := beq_eq_false_iff_ne.mpr c8
      have c8b1 : (x9_1 != 1) = true := bne_iff_ne.mpr c8
      by_cases c12 : t244 < x8_1
      ·rw [if_pos c12] at H
       have c12b0 : decide (t244 < x8_1) = true := decide_eq_true c12
       clear c12
       have H' := Aside0.mk H
       clear H
       go_wp2_with (first | ((with_reducible refine gate_callee (f := 54) rfl ?_); refine goesL_ (some 23) rfl rfl Try.func54 (by kernel_rfl) rfl #[.slice A0 l0.length c0, .int .i64 x9_1] rfl Zc ?_; (with_reducible refine (impl_losing.calls _ _ l0 x9_1 t241 _ ?side1 ?side2 A6.out).mono ?_); (case side1 => exact CS (Kd.C_below HR0.out HB.out)); (case side2 => exact HC0.out); rintro e w13 ⟨v242, rfl, ho0, hb⟩; refine ⟨_, rfl, ?_⟩; have n0_ := Aside0.mk (Kd.R_lower ho0 (below_size (BS HB.out))); have n1_ := Aside0.mk (below_step (BS HB.out) hb); clear HB; have HO243 := n0_; have HB := n1_; clear n0_ n1_; (try clear hb); (try clear hb2); (try clear hk); (try clear hi); (try clear ho0); obtain ⟨Ao14, co14, eo14⟩ := Kd.R_slice HO243.out; subst eo14) | ((with_reducible refine gate_callee (f := 53) rfl ?_); refine goesL_ (some 25) rfl rfl Try.func53 (by kernel_rfl) rfl #[.slice Ao14 t241.length co14, .int .i64 a1] rfl Zc ?_; (with_reducible refine (impl_mostWears.calls k1 _ _ t241 a1 t244 _ ?side1 ?side2 A7.out).mono ?_); (case side1 => exact CS (Kd.R_reads' HO243.out).2.2); (case side2 => exact (Kd.R_reads' HO243.out).2.1); rintro e w15 ⟨rfl, hb⟩; refine ⟨_, rfl, ?_⟩; have n0_ := Aside0.mk (Kd.R_below (RS HO243.out) hb); have n1_ := Aside0.mk (below_step (BS HB.out) hb); clear HO243; clear HB; have HO243 := n0_; have HB := n1_; clear n0_ n1_; (try clear hb); (try clear hb2); (try clear hk); (try clear hi)))
       go_roundg k1
       case measure => have := HK1.out; omega
       case rel => exact ⟨(x9_1), (t244), (wrap64 (x9_1 + 1)), Za, Za, Za, H', ⟨by have := HK1.out; omega⟩, ⟨BS HB.out⟩⟩
      ·rw [if_neg c12] at H
       have c12b0 : decide (t244 < x8_1) = false := decide_eq_false c12
       clear c12
       have H' := Aside0.mk H
       clear H
       go_wp2_with (first | ((with_reducible refine gate_callee (f := 54) rfl ?_); refine goesL_ (some 23) rfl rfl Try.func54 (by kernel_rfl) rfl #[.slice A0 l0.length c0, .int .i64 x9_1] rfl Zc ?_; (with_reducible refine (impl_losing.calls _ _ l0 x9_1 t241 _ ?side1 ?side2 A6.out).mono ?_); (case side1 => exact CS (Kd.C_below HR0.out HB.out)); (case side2 => exact HC0.out); rintro e w16 ⟨v242, rfl, ho0, hb⟩; refine ⟨_, rfl, ?_⟩; have n0_ := Aside0.mk (Kd.R_lower ho0 (below_size (BS HB.out))); have n1_ := Aside0.mk (below_step (BS HB.out) hb); clear HB; have HO243 := n0_; have HB := n1_; clear n0_ n1_; (try clear hb); (try clear hb2); (try clear hk); (try clear hi); (try clear ho0); obtain ⟨Ao17, co17, eo17⟩ := Kd.R_slice HO243.out; subst eo17) | ((with_reducible refine gate_callee (f := 53) rfl ?_); refine goesL_ (some 25) rfl rfl Try.func53 (by kernel_rfl) rfl #[.slice Ao17 t241.length co17, .int .i64 a1] rfl Zc ?_; (with_reducible refine (impl_mostWears.calls k1 _ _ t241 a1 t244 _ ?side1 ?side2 A7.out).mono ?_); (case side1 => exact CS (Kd.R_reads' HO243.out).2.2); (case side2 => exact (Kd.R_reads' HO243.out).2.1); rintro e w18 ⟨rfl, hb⟩; refine ⟨_, rfl, ?_⟩; have n0_ := Aside0.mk (Kd.R_below (RS HO243.out) hb); have n1_ := Aside0.mk (below_step (BS HB.out) hb); clear HO243; clear HB; have HO243 := n0_; have HB := n1_; clear n0_ n1_; (try clear hb); (try clear hb2); (try clear hk); (try clear hi)))
       go_roundg k1
       case measure => have := HK1.out; omega
       case rel => exact ⟨(x7_1), (x8_1), (wrap64 (x9_1 + 1)), Za, Za, Za, H', ⟨by have := HK1.out; omega⟩, ⟨BS HB.out⟩⟩
    ·rw [if_neg c5] at H
     have c5b0 : decide (x9_1 ≤ (l0.length : Int)) = false := decide_eq_false c5
     clear c5
     simp only [Option.some.injEq, Prod.mk.injEq] at H
     obtain ⟨rfl, rfl, rfl⟩ := H
     go_wp2
     go_ret3
     exact ⟨Zb, BS HB.out⟩
 ·replace c4 := Bool.eq_false_iff.mpr c4
  subst c4
  have H1 : (some (0, 0, false)) = some (r1, r2, r3) := by rw [if_neg (show ¬ (false = true) by decide)] at H; exact H
  clear H
  have H := H1
  clear H1
  simp only [Option.some.injEq, Prod.mk.injEq] at H
  obtain ⟨rfl, rfl, rfl⟩ := H
  go_enter Try.func27, Try.ntmps27
  go_wp2_with (first | ((with_reducible refine gate_callee (f := 48) rfl ?_); refine goesL_ (some 13) rfl rfl Try.func48 (by kernel_rfl) rfl #[.slice A0 l0.length c0, .int .i64 a1] rfl Zc ?_; (with_reducible refine (impl_hasParts.calls k _ _ l0 a1 false _ ?side1 ?side2 A3.out).mono ?_); (case side1 => exact CS HR0.out); (case side2 => exact HC0.out); rintro e w' ⟨rfl, ⟨nd, rfl⟩⟩; refine ⟨_, rfl, ?_⟩))
  go_ret3
  exact ⟨Zb, BS HB.out⟩

/-! ### spec_WorstStepToLose: function 28 -/
def spec_WorstStepToLose.l0 : Nat → List Int → Int → Int → Int → Int → Option (Int × Int × Bool)
 | 0, _, _, _, _, _ => none
 | k + 1, x0, x1, x7, x8, x9 => if x9 ≤ (x0.length : Int) then ((spec_weLose.f x0 x9).bind fun t246 => ((spec_weMost.f k t246 x1).bind fun t249 => (if x7 = 0 then (spec_WorstStepToLose.l0 k x0 x1 x9 t249 (wrap64 (x9 + 1))) else (if t249 < x8 then (spec_WorstStepToLose.l0 k x0 x1 x9 t249 (wrap64 (x9 + 1))) else (spec_WorstStepToLose.l0 k x0 x1 x7 x8 (wrap64 (x9 + 1))))))) else (some (x7, x8, true))
def spec_WorstStepToLose.f (k : Nat) (l0 : List Int) (a1 : Int) : Option (Int × Int × Bool) := (spec_weEnds.f k l0 a1).bind fun t245 => (if t245 = true then (spec_WorstStepToLose.l0 k l0 a1 0 0 1) else (some (0, 0, false)))
set_option maxHeartbeats 8000000 in
set_option maxRecDepth 100000 in
theorem spec_WorstStepToLose.calls (k : Nat) (A0 : Option Addr) (c0 : Nat) (l0 : List Int) (a1 : Int) (r1 : Int) (r2 : Int) (r3 : Bool) (w : World) (hr0 : Kd.C (Kd.int .i64) w A0 l0.length l0) (hc0 : l0.length ≤ c0) (h : spec_WorstStepToLose.f k l0 a1 = some (r1, r2, r3)) :
  Calls Try.prog 28 #[.slice A0 l0.length c0, .int .i64 a1] w fun e w' => e = .returned (.tuple #[.int .i64 r1, .int .i64 r2, .bool r3]) ∧ Below w.heap.size w w' := by
 have HR0 := Aside0.mk hr0
 have HC0 := Aside0.mk hc0
 clear hr0 hc0
 have HB := Aside0.mk (Below.refl w.heap.size w)
 have H : ((spec_weEnds.f k l0 a1).bind fun t245 => (if t245 = true then (spec_WorstStepToLose.l0 k l0 a1 0 0 1) else (some (0, 0, false)))) = some (r1, r2, r3) := h
 clear h
 replace H := Option.bind_eq_some_iff.mp H
 obtain ⟨t245, A30, H⟩ := H
 try dsimp only at H
 have A3 := Aside0.mk A30
 clear A30
 by_cases c4 : t245 = true
 ·subst c4
  have H1 : (spec_WorstStepToLose.l0 k l0 a1 0 0 1) = some (r1, r2, r3) := by rw [if_pos rfl] at H; exact H
  clear H
  have H := H1
  clear H1
  have H' := Aside0.mk H
  clear H
  go_enter Try.func28, Try.ntmps28
  go_wp2_with (first | ((with_reducible refine gate_callee (f := 50) rfl ?_); refine goesL_ (some 13) rfl rfl Try.func50 (by kernel_rfl) rfl #[.slice A0 l0.length c0, .int .i64 a1] rfl Zc ?_; (with_reducible refine (spec_weEnds.calls k _ _ l0 a1 true _ ?side1 ?side2 A3.out).mono ?_); (case side1 => exact CS HR0.out); (case side2 => exact HC0.out); rintro e w' ⟨rfl, ⟨nd, rfl⟩⟩; refine ⟨_, rfl, ?_⟩))
  go_loopg [7, 8, 9] k (fun kq v7 v8 v9 w' => ∃ (x7_1 : Int) (x8_1 : Int) (x9_1 : Int), v7 = .int .i64 x7_1 ∧ v8 = .int .i64 x8_1 ∧ v9 = .int .i64 x9_1 ∧ Aside0 (spec_WorstStepToLose.l0 kq l0 a1 x7_1 x8_1 x9_1 = some (r1, r2, r3)) ∧ Aside0 (kq ≤ k) ∧ Aside0 (Below w.heap.size w w'))
  case atStart => exact ⟨(0), (0), (1), Za, Za, Za, H', ⟨Nat.le_refl _⟩, ⟨BS HB.out⟩⟩
  case round =>
   clear H'
   (try clear c2); (try clear p2); (try clear c4)
   obtain ⟨x7_1, x8_1, x9_1, rfl, rfl, rfl, HA, HK1, HB⟩ := hrel
   cases gk with
   | zero => exact absurd HA.out (by simp [spec_WorstStepToLose.l0])
   | succ k1 =>
    have H := HA.out
    clear HA
    simp only [spec_WorstStepToLose.l0] at H
    by_cases c5 : x9_1 ≤ (l0.length : Int)
    ·rw [if_pos c5] at H
     have c5b0 : decide (x9_1 ≤ (l0.length : Int)) = true := decide_eq_true c5
     clear c5
     replace H := Option.bind_eq_some_iff.mp H
     obtain ⟨t246, A60, H⟩ := H
     try dsimp only at H
     have A6 := Aside0.mk A60
     clear A60
     replace H := Option.bind_eq_some_iff.mp H
     obtain ⟨t249, A70, H⟩ := H
     try dsimp only at H
     have A7 := Aside0.mk A70
     clear A70
     by_cases c8 : x7_1 = 0
     ·rw [if_pos c8] at H
      have c8b0 : (x7_1 == 0) = true := beq_iff_eq.mpr c8
      have c8b1 : (x7_1 != 0) = false := bne_eq_false_iff_eq.mpr c8
      clear c8
      have H' := Aside0.mk H
      clear H
      go_wp2_with (first | ((with_reducible refine gate_callee (f := 56) rfl ?_); refine goesL_ (some 23) rfl rfl Try.func56 (by kernel_rfl) rfl #[.slice A0 l0.length c0, .int .i64 x9_1] rfl Zc ?_; (with_reducible refine (spec_weLose.calls _ _ l0 x9_1 t246 _ ?side1 ?side2 A6.out).mono ?_); (case side1 => exact CS (Kd.C_below HR0.out HB.out)); (case side2 => exact HC0.out); rintro e w9 ⟨v247, rfl, ho0, hb⟩; refine ⟨_, rfl, ?_⟩; have n0_ := Aside0.mk (Kd.R_lower ho0 (below_size (BS HB.out))); have n1_ := Aside0.mk (below_step (BS HB.out) hb); clear HB; have HO248 := n0_; have HB := n1_; clear n0_ n1_; (try clear hb); (try clear hb2); (try clear hk); (try clear hi); (try clear ho0); obtain ⟨Ao10, co10, eo10⟩ := Kd.R_slice HO248.out; subst eo10) | ((with_reducible refine gate_callee (f := 55) rfl ?_); refine goesL_ (some 25) rfl rfl Try.func55 (by kernel_rfl) rfl #[.slice Ao10 t246.length co10, .int .i64 a1] rfl Zc ?_; (with_reducible refine (spec_weMost.calls k1 _ _ t246 a1 t249 _ ?side1 ?side2 A7.out).mono ?_); (case side1 => exact CS (Kd.R_reads' HO248.out).2.2); (case side2 => exact (Kd.R_reads' HO248.out).2.1); rintro e w11 ⟨rfl, hb⟩; refine ⟨_, rfl, ?_⟩; have n0_ := Aside0.mk (Kd.R_below (RS HO248.out) hb); have n1_ := Aside0.mk (below_step (BS HB.out) hb); clear HO248; clear HB; have HO248 := n0_; have HB := n1_; clear n0_ n1_; (try clear hb); (try clear hb2); (try clear hk); (try clear hi)))
      go_roundg k1
      case measure => have := HK1.out; omega
      case rel => exact ⟨(x9_1), (t249), (wrap64 (x9_1 + 1)), Za, Za, Za, H', ⟨by have := HK1.out; omega⟩, ⟨BS HB.out⟩⟩
     ·rw [if_neg c8] at H
      have c8b0 : (x7_1 == 0) = false := beq_eq_false_iff_ne.mpr c8
      have c8b1 : (x7_1 != 0) = true := bne_iff_ne.mpr c8
      by_cases c12 : t249 < x8_1
      ·rw [if_pos c12] at H
       have c12b0 : decide (t249 < x8_1) = true := decide_eq_true c12
       clear c12
       have H' := Aside0.mk H
       clear H
       go_wp2_with (first | ((with_reducible refine gate_callee (f := 56) rfl ?_); refine goesL_ (some 23) rfl rfl Try.func56 (by kernel_rfl) rfl #[.slice A0 l0.length c0, .int .i64 x9_1] rfl Zc ?_; (with_reducible refine (spec_weLose.calls _ _ l0 x9_1 t246 _ ?side1 ?side2 A6.out).mono ?_); (case side1 => exact CS (Kd.C_below HR0.out HB.out)); (case side2 => exact HC0.out); rintro e w13 ⟨v247, rfl, ho0, hb⟩; refine ⟨_, rfl, ?_⟩; have n0_ := Aside0.mk (Kd.R_lower ho0 (below_size (BS HB.out))); have n1_ := Aside0.mk (below_step (BS HB.out) hb); clear HB; have HO248 := n0_; have HB := n1_; clear n0_ n1_; (try clear hb); (try clear hb2); (try clear hk); (try clear hi); (try clear ho0); obtain ⟨Ao14, co14, eo14⟩ := Kd.R_slice HO248.out; subst eo14) | ((with_reducible refine gate_callee (f := 55) rfl ?_); refine goesL_ (some 25) rfl rfl Try.func55 (by kernel_rfl) rfl #[.slice Ao14 t246.length co14, .int .i64 a1] rfl Zc ?_; (with_reducible refine (spec_weMost.calls k1 _ _ t246 a1 t249 _ ?side1 ?side2 A7.out).mono ?_); (case side1 => exact CS (Kd.R_reads' HO248.out).2.2); (case side2 => exact (Kd.R_reads' HO248.out).2.1); rintro e w15 ⟨rfl, hb⟩; refine ⟨_, rfl, ?_⟩; have n0_ := Aside0.mk (Kd.R_below (RS HO248.out) hb); have n1_ := Aside0.mk (below_step (BS HB.out) hb); clear HO248; clear HB; have HO248 := n0_; have HB := n1_; clear n0_ n1_; (try clear hb); (try clear hb2); (try clear hk); (try clear hi)))
       go_roundg k1
       case measure => have := HK1.out; omega
       case rel => exact ⟨(x9_1), (t249), (wrap64 (x9_1 + 1)), Za, Za, Za, H', ⟨by have := HK1.out; omega⟩, ⟨BS HB.out⟩⟩
      ·rw [if_neg c12] at H
       have c12b0 : decide (t249 < x8_1) = false := decide_eq_false c12
       clear c12
       have H' := Aside0.mk H
       clear H
       go_wp2_with (first | ((with_reducible refine gate_callee (f := 56) rfl ?_); refine goesL_ (some 23) rfl rfl Try.func56 (by kernel_rfl) rfl #[.slice A0 l0.length c0, .int .i64 x9_1] rfl Zc ?_; (with_reducible refine (spec_weLose.calls _ _ l0 x9_1 t246 _ ?side1 ?side2 A6.out).mono ?_); (case side1 => exact CS (Kd.C_below HR0.out HB.out)); (case side2 => exact HC0.out); rintro e w16 ⟨v247, rfl, ho0, hb⟩; refine ⟨_, rfl, ?_⟩; have n0_ := Aside0.mk (Kd.R_lower ho0 (below_size (BS HB.out))); have n1_ := Aside0.mk (below_step (BS HB.out) hb); clear HB; have HO248 := n0_; have HB := n1_; clear n0_ n1_; (try clear hb); (try clear hb2); (try clear hk); (try clear hi); (try clear ho0); obtain ⟨Ao17, co17, eo17⟩ := Kd.R_slice HO248.out; subst eo17) | ((with_reducible refine gate_callee (f := 55) rfl ?_); refine goesL_ (some 25) rfl rfl Try.func55 (by kernel_rfl) rfl #[.slice Ao17 t246.length co17, .int .i64 a1] rfl Zc ?_; (with_reducible refine (spec_weMost.calls k1 _ _ t246 a1 t249 _ ?side1 ?side2 A7.out).mono ?_); (case side1 => exact CS (Kd.R_reads' HO248.out).2.2); (case side2 => exact (Kd.R_reads' HO248.out).2.1); rintro e w18 ⟨rfl, hb⟩; refine ⟨_, rfl, ?_⟩; have n0_ := Aside0.mk (Kd.R_below (RS HO248.out) hb); have n1_ := Aside0.mk (below_step (BS HB.out) hb); clear HO248; clear HB; have HO248 := n0_; have HB := n1_; clear n0_ n1_; (try clear hb); (try clear hb2); (try clear hk); (try clear hi)))
       go_roundg k1
       case measure => have := HK1.out; omega
       case rel => exact ⟨(x7_1), (x8_1), (wrap64 (x9_1 + 1)), Za, Za, Za, H', ⟨by have := HK1.out; omega⟩, ⟨BS HB.out⟩⟩
    ·rw [if_neg c5] at H
     have c5b0 : decide (x9_1 ≤ (l0.length : Int)) = false := decide_eq_false c5
     clear c5
     simp only [Option.some.injEq, Prod.mk.injEq] at H
     obtain ⟨rfl, rfl, rfl⟩ := H
     go_wp2
     go_ret3
     exact ⟨Zb, BS HB.out⟩
 ·replace c4 := Bool.eq_false_iff.mpr c4
  subst c4
  have H1 : (some (0, 0, false)) = some (r1, r2, r3) := by rw [if_neg (show ¬ (false = true) by decide)] at H; exact H
  clear H
  have H := H1
  clear H1
  simp only [Option.some.injEq, Prod.mk.injEq] at H
  obtain ⟨rfl, rfl, rfl⟩ := H
  go_enter Try.func28, Try.ntmps28
  go_wp2_with (first | ((with_reducible refine gate_callee (f := 50) rfl ?_); refine goesL_ (some 13) rfl rfl Try.func50 (by kernel_rfl) rfl #[.slice A0 l0.length c0, .int .i64 a1] rfl Zc ?_; (with_reducible refine (spec_weEnds.calls k _ _ l0 a1 false _ ?side1 ?side2 A3.out).mono ?_); (case side1 => exact CS HR0.out); (case side2 => exact HC0.out); rintro e w' ⟨rfl, ⟨nd, rfl⟩⟩; refine ⟨_, rfl, ?_⟩))
  go_ret3
  exact ⟨Zb, BS HB.out⟩

/-! ### bits_Mul32: function 92 -/
def bits_Mul32.f (a0 : Int) (a1 : Int) : Option (Int × Int) := some (((IntKind.u64.wrap ((IntKind.u64.wrap (a0)) * (IntKind.u64.wrap (a1)))) / 4294967296) % 4294967296, (IntKind.u64.wrap ((IntKind.u64.wrap (a0)) * (IntKind.u64.wrap (a1)))) % 4294967296)
set_option maxHeartbeats 8000000 in
set_option maxRecDepth 100000 in
theorem bits_Mul32.calls (a0 : Int) (a1 : Int) (r1 : Int) (r2 : Int) (w : World) (h : bits_Mul32.f a0 a1 = some (r1, r2)) :
  Calls Try.prog 92 #[.int .u32 a0, .int .u32 a1] w fun e w' => e = .returned (.tuple #[.int .u32 r1, .int .u32 r2]) ∧ Drawn0 w w' := by
 have H : (some (((IntKind.u64.wrap ((IntKind.u64.wrap (a0)) * (IntKind.u64.wrap (a1)))) / 4294967296) % 4294967296, (IntKind.u64.wrap ((IntKind.u64.wrap (a0)) * (IntKind.u64.wrap (a1)))) % 4294967296)) = some (r1, r2) := h
 clear h
 simp only [Option.some.injEq, Prod.mk.injEq] at H
 obtain ⟨rfl, rfl⟩ := H
 go_enter Try.func92, Try.ntmps92
 go_wp2
 go_ret2
 exact ⟨Za, by repeat (first | exact Drawn0.refl _ | apply Drawn0.step)⟩

/-! ### bits_Mul64: function 93 -/
def bits_Mul64.f (a0 : Int) (a1 : Int) : Option (Int × Int) := some (IntKind.u64.wrap ((IntKind.u64.wrap ((IntKind.u64.wrap ((a0 / 4294967296) * (a1 / 4294967296))) + ((IntKind.u64.wrap ((IntKind.u64.wrap ((a0 / 4294967296) * (Go.bits .and .u64 a1 4294967295))) + ((IntKind.u64.wrap ((Go.bits .and .u64 a0 4294967295) * (Go.bits .and .u64 a1 4294967295))) / 4294967296))) / 4294967296))) + ((IntKind.u64.wrap ((Go.bits .and .u64 (IntKind.u64.wrap ((IntKind.u64.wrap ((a0 / 4294967296) * (Go.bits .and .u64 a1 4294967295))) + ((IntKind.u64.wrap ((Go.bits .and .u64 a0 4294967295) * (Go.bits .and .u64 a1 4294967295))) / 4294967296))) 4294967295) + (IntKind.u64.wrap ((Go.bits .and .u64 a0 4294967295) * (a1 / 4294967296))))) / 4294967296)), IntKind.u64.wrap (a0 * a1))
set_option maxHeartbeats 8000000 in
set_option maxRecDepth 100000 in
theorem bits_Mul64.calls (a0 : Int) (a1 : Int) (r1 : Int) (r2 : Int) (w : World) (h : bits_Mul64.f a0 a1 = some (r1, r2)) :
  Calls Try.prog 93 #[.int .u64 a0, .int .u64 a1] w fun e w' => e = .returned (.tuple #[.int .u64 r1, .int .u64 r2]) ∧ Drawn0 w w' := by
 have H : (some (IntKind.u64.wrap ((IntKind.u64.wrap ((IntKind.u64.wrap ((a0 / 4294967296) * (a1 / 4294967296))) + ((IntKind.u64.wrap ((IntKind.u64.wrap ((a0 / 4294967296) * (Go.bits .and .u64 a1 4294967295))) + ((IntKind.u64.wrap ((Go.bits .and .u64 a0 4294967295) * (Go.bits .and .u64 a1 4294967295))) / 4294967296))) / 4294967296))) + ((IntKind.u64.wrap ((Go.bits .and .u64 (IntKind.u64.wrap ((IntKind.u64.wrap ((a0 / 4294967296) * (Go.bits .and .u64 a1 4294967295))) + ((IntKind.u64.wrap ((Go.bits .and .u64 a0 4294967295) * (Go.bits .and .u64 a1 4294967295))) / 4294967296))) 4294967295) + (IntKind.u64.wrap ((Go.bits .and .u64 a0 4294967295) * (a1 / 4294967296))))) / 4294967296)), IntKind.u64.wrap (a0 * a1))) = some (r1, r2) := h
 clear h
 simp only [Option.some.injEq, Prod.mk.injEq] at H
 obtain ⟨rfl, rfl⟩ := H
 go_enter Try.func93, Try.ntmps93
 go_wp2
 go_ret2
 exact ⟨Za, by repeat (first | exact Drawn0.refl _ | apply Drawn0.step)⟩

/-! ### bits_Mul: function 89 -/
def bits_Mul.f (a0 : Int) (a1 : Int) : Option (Int × Int) := (bits_Mul64.f a0 a1).bind fun bt250 => (some (bt250.1, bt250.2))
set_option maxHeartbeats 8000000 in
set_option maxRecDepth 100000 in
theorem bits_Mul.calls (a0 : Int) (a1 : Int) (r1 : Int) (r2 : Int) (w : World) (h : bits_Mul.f a0 a1 = some (r1, r2)) :
  Calls Try.prog 89 #[.int .u64 a0, .int .u64 a1] w fun e w' => e = .returned (.tuple #[.int .u64 r1, .int .u64 r2]) ∧ Drawn0 w w' := by
 have H : ((bits_Mul64.f a0 a1).bind fun bt250 => (some (bt250.1, bt250.2))) = some (r1, r2) := h
 clear h
 replace H := Option.bind_eq_some_iff.mp H
 obtain ⟨⟨t250, t251⟩, A30, H⟩ := H
 try dsimp only at H
 have A3 := Aside0.mk A30
 clear A30
 simp only [Option.some.injEq, Prod.mk.injEq] at H
 obtain ⟨rfl, rfl⟩ := H
 go_enter Try.func89, Try.ntmps89
 go_wp2_with (first | ((with_reducible refine gate_callee (f := 93) rfl ?_); refine goesL_ (some 25) rfl rfl Try.func93 (by kernel_rfl) rfl #[.int .u64 a0, .int .u64 a1] rfl Zc ?_; (with_reducible refine (bits_Mul64.calls a0 a1 t250 t251 _ A3.out).mono ?_); rintro e w' ⟨rfl, ⟨nd, rfl⟩⟩; refine ⟨_, rfl, ?_⟩))
 go_ret2
 exact ⟨Za, by repeat (first | exact Drawn0.refl _ | apply Drawn0.step)⟩

/-! ### slices_Repeat_int_int: function 79 (a contract of our own: one value, at most 1000 times) -/
def slices_Repeat_int_int.f (l0 : List Int) (a1 : Int) : Option (List Int) := if l0.length = 1 ∧ 1 ≤ a1 ∧ a1 ≤ 1000 then some (List.replicate a1.toNat (rd l0 0)) else none
structure slices_Repeat_int_int.Stop (p : Prop) : Prop where
 out : p
theorem slices_Repeat_int_int.mul1 (N : Nat) (h : N ≤ 1000) : bits_Mul.f 1 (N : Int) = some (0, (N : Int)) := by
 have e : Go.bits .and .u64 (N : Int) 4294967295 = (N : Int) := by
  have h9 : ∀ n : Fin 1001, Go.bits .and .u64 (n.val : Int) 4294967295 = (n.val : Int) := by decide +kernel
  exact h9 ⟨N, by omega⟩
 have e1 : Go.bits .and .u64 1 4294967295 = 1 := by decide +kernel
 have e2 : (1 : Int) / 4294967296 = 0 := by decide
 have e3 : (N : Int) / 4294967296 = 0 := by omega
 have e4 : IntKind.u64.wrap (N : Int) = (N : Int) := by
  rw [IntKind.wrap_u64]
  omega
 have e5 : IntKind.u64.wrap 0 = 0 := by decide +kernel
 have e6 : Go.bits .and .u64 0 4294967295 = 0 := by decide +kernel
 simp only [bits_Mul.f, bits_Mul64.f, e, e1, e2, e3, Int.mul_zero, Int.zero_mul, Int.one_mul, Int.mul_one, e4, e5, e6, Int.add_zero, Int.zero_add, Int.zero_ediv, Option.bind_some]

/-- The row at g holds n times v, then anything. -/
def slices_Repeat_int_int.Hold (g n cap : Nat) (v : Int) (w : World) : Prop := ∃ cur : List Value, w.heap[g]? = some (.cells cur.toArray 3 (0, 0)) ∧ cur.length = cap ∧ cur.take n = List.replicate n (.int .i64 v)
theorem slices_Repeat_int_int.own_shape {w : World} {base n : Nat} {u : Value} {xs : List Value} (h : w.ownsRow base 3 1 u n xs) (hn : 1 ≤ n) : ∃ g cap cur, u = .slice (some ⟨g, 0, none⟩) n cap ∧ base ≤ g ∧ n ≤ cap ∧ cap ≤ maxLen ∧ w.heap[g]? = some (.cells (List.toArray cur) 3 (0, 0)) ∧ cur.length = cap := by
 rcases h.2 with ⟨_, h⟩ | ⟨g, cap, cur, e, hb, hh, hle, hm, hs, _⟩
 ·omega
 ·exact ⟨g, cap, cur.toList, e, hb, hle, hm, by simpa using hh, by simpa using hs⟩
theorem slices_Repeat_int_int.hold_R {w : World} {base g N cap : Nat} {v : Int} (h : slices_Repeat_int_int.Hold g N cap v w) (hb : base ≤ g) (hle : N ≤ cap) (hm : cap ≤ maxLen) : (Kd.int .i64).R 3 w base (fun _ => True) (.slice (some ⟨g, 0, none⟩) N cap) (List.replicate N v) := by
 obtain ⟨cur, h1, h2, h3⟩ := h
 refine Kd.R_of_own (enc := Value.int .i64) ?_ (fun _ _ => trivial)
 rw [List.length_replicate]
 refine ⟨by simp [encs], .inr ⟨g, cap, cur.toArray, rfl, hb, h1, hle, hm, by simpa using h2, ?_⟩⟩
 simp [encs, h3]
theorem slices_Repeat_int_int.hold_splice {cur : List Value} {n m cap : Nat} {v : Int} (h1 : cur.length = cap) (h2 : cur.take n = List.replicate n (.int .i64 v)) (hn : n ≤ cap) (hm : n + m ≤ cap) : (splice cur n (List.replicate m (.int .i64 v))).length = cap ∧ (splice cur n (List.replicate m (.int .i64 v))).take (n + m) = List.replicate (n + m) (.int .i64 v) := by
 refine ⟨by rw [length_splice _ _ _ (by simp; omega), h1], ?_⟩
 unfold splice
 rw [h2, ← List.append_assoc, List.replicate_append_replicate, List.take_left' (by simp)]
set_option maxHeartbeats 8000000 in
set_option maxRecDepth 100000 in
theorem slices_Repeat_int_int.one (A0 : Option Addr) (c0 : Nat) (v : Int) (N : Nat) (h1 : 1 ≤ N) (h2 : N ≤ 1000) (w : World) (hr0 : Kd.C (Kd.int .i64) w A0 1 [v]) (hc0 : 1 ≤ c0) :
  Calls Try.prog 79 #[.slice A0 1 c0, .int .i64 N] w fun e w' => ∃ v0_ : Value, e = .returned (v0_) ∧ Kd.R (Kd.int .i64) 3 w' w.heap.size (fun _ => True) v0_ (List.replicate N v) ∧ Below w.heap.size w w' := by
 have HR0 := Aside0.mk hr0
 have M := Aside0.mk (slices_Repeat_int_int.mul1 N h2)
 have I3 := Aside0.mk ((Option.map_eq_some_iff.1 info3).imp (fun _ h => h.1))
 clear hr0
 go_enter Try.func79, Try.ntmps79
 go_wp2_with (first
  | ((with_reducible refine gate_callee (f := 89) rfl ?_); refine goesL_ (some 18) rfl rfl Try.func89 (by kernel_rfl) rfl #[.int .u64 1, .int .u64 N] rfl (by (try simp only [List.map_toArray, List.map_cons, List.map_nil]); first | done | rfl | (go_simp; done) | (go_simp; rfl)) ?_; (with_reducible refine (bits_Mul.calls 1 N 0 N _ M.out).mono ?_); rintro e w' ⟨rfl, ⟨nd, rfl⟩⟩; refine ⟨_, rfl, ?_⟩)
  | ((with_reducible refine gate_dst (N := 30) rfl ?_); refine slices_Repeat_int_int.Stop.out ?_))
 constructor
 refine Kd.R_make (Kd.int .i64) _ 3 rfl (N := 30) rfl 22 _ _ rfl (N : Int) rfl rfl Try.underlying22 (.int .i64 0) 8 info3 rfl (by decide) (by omega) 0 (ok := fun _ => True) (okp := fun _ => True) rfl (fun _ hk => hk) trivial (by omega) (by omega) (Below.refl _ _) (Nat.le_refl _) ?_
 intro v1 w1 ho hb hg_ hnew_
 clear hg_ hnew_
 obtain ⟨g, cap, cur, rfl, hbg, hle, hm, hh, hcl⟩ := slices_Repeat_int_int.own_shape (Kd.own_of_R (enc := Value.int .i64) ho) (by simp; omega)
 clear ho
 simp only [List.length_replicate, Int.toNat_natCast] at hle ⊢
 have HB := Aside0.mk (below_step (pw_below_drewN (Below.refl w.heap.size w) _) hb)
 have HH := Aside0.mk hh
 have HCL := Aside0.mk hcl
 have HR1 := Aside0.mk (Kd.C_below HR0.out HB.out)
 have hbg2 : w.heap.size ≤ g := Nat.le_trans (below_size (pw_below_drewN (Below.refl w.heap.size w) _)) hbg
 clear hh hcl hb hbg HR0
 obtain ⟨ad, had, hcell⟩ := Kd.at_int HR1.out 0 (by omega) (by omega)
 subst had
 have HAD := Aside0.mk hcell
 clear hcell HR1
 go_wp2_with (first
  | ((with_reducible refine gate_dst (N := 33) rfl ?_); refine slices_Repeat_int_int.Stop.out ?_))
 constructor
 refine wpList_copy_splice rfl (.tmp 31) (.tmp 32) 22 22 rfl 3 Try.underlying22 (by kernel_rfl) (some ⟨g, 0, none⟩) (some ad) N cap 1 c0 rfl rfl g 0 cur 3 HH.out [.int .i64 v] ?_ ?_ ?_ ?_ w.heap.size w HB.out hbg2 ?_
 ·show 1 = min 1 N
  omega
 ·intro _
  refine ⟨rfl, ad, rfl, fun j u hj => ?_⟩
  cases j with
  | zero =>
   obtain rfl : Value.int .i64 v = u := by simpa using hj
   exact HAD.out
  | succ j => simp at hj
 ·rw [HCL.out]
  show 0 + 1 ≤ cap
  omega
 ·intro u hu
  obtain rfl : u = Value.int .i64 v := by simpa using hu
  rfl
 intro w2 HG2 hB2
 have HO : slices_Repeat_int_int.Hold g 1 cap v w2 := by
  obtain ⟨z1, z2⟩ := slices_Repeat_int_int.hold_splice (n := 0) (m := 1) HCL.out rfl (by omega) (by omega)
  exact ⟨_, HG2.out, z1, by simpa using z2⟩
 have HO1 := Aside0.mk HO
 have HB2 := Aside0.mk hB2
 clear HO HG2 hB2 HB HH HCL HAD I3 M
 go_wp2
 go_loopw [8] (fun i W => ∃ n : Nat, 1 ≤ n ∧ n ≤ N ∧ i = .int .i64 n ∧ slices_Repeat_int_int.Hold g n cap v W ∧ Below w.heap.size w W) (fun i _ => N - (intOf i).toNat)
 case atStart => exact ⟨1, Nat.le_refl _, h1, rfl, HO1.out, HB2.out⟩
 case round =>
  obtain ⟨n, hn1, hn2, rfl, ⟨cur', hc1, hc2, hc3⟩, hbel⟩ := hrel
  have HC1 := Aside0.mk hc1
  have HC2 := Aside0.mk hc2
  have HC3 := Aside0.mk hc3
  have HBL := Aside0.mk hbel
  clear hc1 hc2 hc3 hbel HO1 HB2
  by_cases hlt : n < N
  ·obtain ⟨m, hm1, hm2, hm3⟩ : ∃ m, 1 ≤ m ∧ n + m ≤ N ∧ m = Nat.min n (N - n) := ⟨min n (N - n), by omega, by omega, rfl⟩
   have P1 : Aside0 ((List.replicate m (Value.int .i64 v)).length = Nat.min n (N - n)) := Aside0.mk (by rw [List.length_replicate]; exact hm3)
   have hmn : m ≤ n := by rw [hm3]; exact Nat.min_le_left ..
   have P2 : Aside0 (∀ j u, (List.replicate m (Value.int .i64 v))[j]? = some u → wr.cell? ((⟨g, 0, none⟩ : Addr).add j) = some u) := Aside0.mk (by
    intro j u hj
    rw [List.getElem?_replicate] at hj
    split at hj
    ·rename_i hjm
     obtain rfl := Option.some.inj hj
     have h9 : cur'[j]? = some (Value.int .i64 v) := by
      have := congrArg (fun l => l[j]?) HC3.out
      simp only [List.getElem?_take, List.getElem?_replicate] at this
      rw [if_pos (by omega), if_pos (by omega)] at this
      exact this
     by_cases hj0 : j = 0
     ·subst hj0
      show wr.cell? ⟨g, 0, none⟩ = _
      simp only [World.cell?, HC1.out]
      simpa using h9
     ·have e9 : (⟨g, 0, none⟩ : Addr).add j = ⟨g, j, none⟩ := by simp [Addr.add, hj0]
      rw [e9]
      simp only [World.cell?, HC1.out]
      simpa using h9
    ·cases hj)
   have P3 : Aside0 (n + (List.replicate m (Value.int .i64 v)).length ≤ cur'.length) := Aside0.mk (by rw [List.length_replicate, HC2.out]; omega)
   have P4 : Aside0 (∀ u ∈ List.replicate m (Value.int .i64 v), u.oneCell' = true) := Aside0.mk (by
    intro u hu
    rw [(List.mem_replicate.mp hu).2]
    rfl)
   have P5 := Aside0.mk hm3
   clear hm3
   have hnc : n ≤ cap := by omega
   have hne : ¬ cap = n := by omega
   go_wp2
   go_region_law (refine step_copy_splice rfl (.tmp 41) (.tmp 44) 22 22 rfl 3 Try.underlying22 (by kernel_rfl) (some ⟨g, n, none⟩) (some ⟨g, 0, none⟩) (N - n) (cap - n) n cap (by simp [Act.eval, Act.put]) (by simp [Act.eval, Act.put]) g n cur' 3 HC1.out (List.replicate m (.int .i64 v)) P1.out (fun _ => ⟨rfl, ⟨g, 0, none⟩, rfl, P2.out⟩) P3.out P4.out w.heap.size w (by first | exact below_drew1 HBL.out | exact HBL.out.drew) hbg2 ?_; intro w4 hg4 hb4)
   simp only [Act.put, List.getElem_toArray, List.getElem_cons_succ, List.getElem_cons_zero, List.setIfInBounds_toArray, List.set_cons_zero, List.set_cons_succ]
   have hwr : IntKind.i64.wrap ((n : Int) + (m : Int)) = ((n + m : Nat) : Int) := by
    rw [i64_w]
    unfold wrap64
    omega
   rw [hwr]
   have HO2 : slices_Repeat_int_int.Hold g (n + m) cap v w4 := by
    obtain ⟨z1, z2⟩ := slices_Repeat_int_int.hold_splice (m := m) HC2.out HC3.out (by omega) (by omega)
    exact ⟨_, hg4.out, z1, z2⟩
   have HO3 := Aside0.mk HO2
   have HB3 := Aside0.mk hb4
   clear HO2 hg4 hb4 hwr
   go_roundw
   case rel => exact ⟨_, _, _, _, _, _, _, _, _, _, _, _, _, _, ⟨n + m, by omega, by omega, rfl, HO3.out, HB3.out⟩, rfl⟩
   case measure =>
    show N - (((n + m : Nat) : Int)).toNat < N - ((n : Int)).toNat
    omega
  ·obtain rfl : n = N := by omega
   go_wp2
   go_ret
   exact ⟨_, rfl, slices_Repeat_int_int.hold_R ⟨cur', HC1.out, HC2.out, HC3.out⟩ hbg2 hle hm, HBL.out⟩
theorem slices_Repeat_int_int.calls (A0 : Option Addr) (c0 : Nat) (l0 : List Int) (a1 : Int) (r : List Int) (w : World) (hr0 : Kd.C (Kd.int .i64) w A0 l0.length l0) (hc0 : l0.length ≤ c0) (h : slices_Repeat_int_int.f l0 a1 = some r) :
  Calls Try.prog 79 #[.slice A0 l0.length c0, .int .i64 a1] w fun e w' => ∃ v0_ : Value, e = .returned (v0_) ∧ Kd.R (Kd.int .i64) 3 w' w.heap.size (fun _ => True) v0_ r ∧ Below w.heap.size w w' := by
 unfold slices_Repeat_int_int.f at h
 by_cases hc : l0.length = 1 ∧ 1 ≤ a1 ∧ a1 ≤ 1000
 ·rw [if_pos hc] at h
  obtain rfl := Option.some.inj h
  obtain ⟨h1, h2, h3⟩ := hc
  obtain ⟨v, rfl⟩ := List.length_eq_one_iff.mp h1
  obtain ⟨N, rfl⟩ : ∃ N : Nat, a1 = (N : Int) := ⟨a1.toNat, by omega⟩
  exact slices_Repeat_int_int.one A0 c0 v N (by omega) (by omega) w hr0 hc0
 ·rw [if_neg hc] at h
  cases h

end Go.Proofs.Ytbeokaghdagabaa.PFnStepsMendedOfAll
