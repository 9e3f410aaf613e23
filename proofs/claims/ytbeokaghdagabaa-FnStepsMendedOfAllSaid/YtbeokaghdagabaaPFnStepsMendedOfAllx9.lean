-- Written by wip/gen/mp.py of this repo (the kit's printer with our own parts): functions and their contracts.
import Derived.Test.YtbeokaghdagabaaPFnStepsMendedOfAllx0
import Derived.Test.YtbeokaghdagabaaPFnStepsMendedOfAllx1
import Derived.Test.YtbeokaghdagabaaPFnStepsMendedOfAllx2
import Derived.Test.YtbeokaghdagabaaPFnStepsMendedOfAllx6
import Derived.Test.YtbeokaghdagabaaPFnStepsMendedOfAllx8
namespace Go.Proofs.Ytbeokaghdagabaa.PFnStepsMendedOfAll
open Go.RowKit Go.Proofs.YtbeokaghdagabaaW.PrintWords Go.Proofs.YtbeokaghdagabaaW.PrintLast Go.Proofs.YtbeokaghdagabaaW.PrintMore
attribute [local go_sem] max2_int min2_int max_two min_two max_three min_three max_four min_four   -- for this text's walks alone
set_option linter.unusedVariables false
set_option linter.unusedSimpArgs false

/-! ### spec_FirstWearClimb: function 30 -/
mutual
def spec_FirstWearClimb.l0 : Nat → List Int → Int → List Int → List Int → Int → Option (List Int × Bool)
 | 0, _, _, _, _, _ => none
 | k + 1, x0, x1, x6, x7, x8 => if (wrap64 ((wrap64 ((x0.length : Int) + 1)) - x8)) > x1 then (spec_FirstWearClimb.l1 k x0 x1 x6 x7 (wrap64 (x8 + 1))) else (some (x7, true))
def spec_FirstWearClimb.l1 : Nat → List Int → Int → List Int → List Int → Int → Option (List Int × Bool)
 | 0, _, _, _, _, _ => none
 | k + 1, x0, x1, x6, x7, x8 => if 0 ≤ (wrap64 (x8 - 1)) then (if (wrap64 (x8 - 1)) < (x0.length : Int) then (if (rd x0 (wrap64 (x8 - 1))) = 0 then (spec_FirstWearClimb.l1 k x0 x1 x6 x7 (wrap64 (x8 + 1))) else (if 0 ≤ x8 then (if x8 < (x6.length : Int) then (if (rd x6 x8) = 0 then (spec_FirstWearClimb.l1 k x0 x1 x6 x7 (wrap64 (x8 + 1))) else (if x7.length < 17592186044416 then (spec_FirstWearClimb.l0 k x0 x1 x6 (x7 ++ [x8]) x8) else (none))) else (none)) else (none))) else (none)) else (none)
end
def spec_FirstWearClimb.f (k : Nat) (l0 : List Int) (a1 : Int) : Option (List Int × Bool) := (spec_weReach.f k l0 a1).bind fun t310 => (if t310 = true then ((spec_weWays.f k l0 a1).bind fun t311 => (if 0 < (t311.length : Int) then (if (rd t311 0) = 0 then (some (([] : List Int), false)) else (spec_FirstWearClimb.l0 k l0 a1 t311 ([] : List Int) 0)) else (none))) else (some (([] : List Int), false)))
set_option maxHeartbeats 8000000 in
set_option maxRecDepth 100000 in
theorem spec_FirstWearClimb.calls (k : Nat) (A0 : Option Addr) (c0 : Nat) (l0 : List Int) (a1 : Int) (r1 : List Int) (r2 : Bool) (w : World) (hr0 : Kd.C (Kd.int .i64) w A0 l0.length l0) (hc0 : l0.length ≤ c0) (h : spec_FirstWearClimb.f k l0 a1 = some (r1, r2)) :
  Calls Try.prog 30 #[.slice A0 l0.length c0, .int .i64 a1] w fun e w' => ∃ v0_ : Value, e = .returned (.tuple #[v0_, .bool r2]) ∧ Kd.R (Kd.int .i64) 3 w' w.heap.size (fun _ => True) v0_ r1 ∧ Below w.heap.size w w' := by
 have HR0 := Aside0.mk hr0
 have HC0 := Aside0.mk hc0
 clear hr0 hc0
 have HB := Aside0.mk (Below.refl w.heap.size w)
 have H : ((spec_weReach.f k l0 a1).bind fun t310 => (if t310 = true then ((spec_weWays.f k l0 a1).bind fun t311 => (if 0 < (t311.length : Int) then (if (rd t311 0) = 0 then (some (([] : List Int), false)) else (spec_FirstWearClimb.l0 k l0 a1 t311 ([] : List Int) 0)) else (none))) else (some (([] : List Int), false)))) = some (r1, r2) := h
 clear h
 replace H := Option.bind_eq_some_iff.mp H
 obtain ⟨t310, A30, H⟩ := H
 try dsimp only at H
 have A3 := Aside0.mk A30
 clear A30
 by_cases c4 : t310 = true
 ·subst c4
  have H1 : ((spec_weWays.f k l0 a1).bind fun t311 => (if 0 < (t311.length : Int) then (if (rd t311 0) = 0 then (some (([] : List Int), false)) else (spec_FirstWearClimb.l0 k l0 a1 t311 ([] : List Int) 0)) else (none))) = some (r1, r2) := by rw [if_pos rfl] at H; exact H
  clear H
  have H := H1
  clear H1
  replace H := Option.bind_eq_some_iff.mp H
  obtain ⟨t311, A50, H⟩ := H
  try dsimp only at H
  have A5 := Aside0.mk A50
  clear A50
  by_cases c6 : 0 < (t311.length : Int)
  ·rw [if_pos c6] at H
   have c6b0 : decide (0 < (t311.length : Int)) = true := decide_eq_true c6
   have c6b1 : decide (0 < t311.length) = true := decide_eq_true (by omega)
   clear c6
   by_cases c7 : (rd t311 0) = 0
   ·rw [if_pos c7] at H
    have c7b0 : ((rd t311 0) == 0) = true := beq_iff_eq.mpr c7
    have c7b1 : ((rd t311 0) != 0) = false := bne_eq_false_iff_eq.mpr c7
    clear c7
    simp only [Option.some.injEq, Prod.mk.injEq] at H
    obtain ⟨rfl, rfl⟩ := H
    go_enter Try.func30, Try.ntmps30
    go_wp2_with (first | ((with_reducible refine gate_callee (f := 59) rfl ?_); refine goesL_ (some 11) rfl rfl Try.func59 (by kernel_rfl) rfl #[.slice A0 l0.length c0, .int .i64 a1] rfl Zc ?_; (with_reducible refine (spec_weReach.calls k _ _ l0 a1 true _ ?side1 ?side2 A3.out).mono ?_); (case side1 => exact CS HR0.out); (case side2 => exact HC0.out); rintro e w' ⟨rfl, ⟨nd, rfl⟩⟩; refine ⟨_, rfl, ?_⟩) | ((with_reducible refine gate_callee (f := 60) rfl ?_); refine goesL_ (some 15) rfl rfl Try.func60 (by kernel_rfl) rfl #[.slice A0 l0.length c0, .int .i64 a1] rfl Zc ?_; (with_reducible refine (spec_weWays.calls k _ _ l0 a1 t311 _ ?side1 ?side2 A5.out).mono ?_); (case side1 => exact CS HR0.out); (case side2 => exact HC0.out); rintro e w8 ⟨v312, rfl, ho0, hb⟩; refine ⟨_, rfl, ?_⟩; have n0_ := Aside0.mk (Kd.R_lower ho0 (below_size (BS HB.out))); have n1_ := Aside0.mk (below_step (BS HB.out) hb); clear HB; have HO313 := n0_; have HB := n1_; clear n0_ n1_; (try clear hb); (try clear hb2); (try clear hk); (try clear hi); (try clear ho0); obtain ⟨Ao9, co9, eo9⟩ := Kd.R_slice HO313.out; subst eo9; have p314 : 0 ≤ (0 : Int) := (by omega); have q314 : 0 < (t311.length : Int) := OD; obtain ⟨ad314, e314, hx314_0⟩ := Kd.at_int (Kd.R_reads' HO313.out).2.2 0 p314 q314; cases e314; have qi314 : (0 < t311.length) = True := eq_true (by omega); (try rw [show ((0 : Int)).toNat = 0 from rfl] at hx314_0); (try rw [Addr.add_zero'] at hx314_0); replace p314 := eq_true p314; replace q314 := eq_true q314))
    go_ret2
    exact ⟨_, Zb, by first | exact Kd.R_nil _ _ _ _ _ | exact Kd.N_nil _ _ _ _ _ | exact Kd.V_nil _ _ _ _ _ | exact Kd.Q_nil _ _ _ _ _ | exact Kd.S_nil _ _ _ _ _, BS HB.out⟩
   ·rw [if_neg c7] at H
    have c7b0 : ((rd t311 0) == 0) = false := beq_eq_false_iff_ne.mpr c7
    have c7b1 : ((rd t311 0) != 0) = true := bne_iff_ne.mpr c7
    have H' := Aside0.mk H
    clear H
    go_enter Try.func30, Try.ntmps30
    go_wp2_with (first | ((with_reducible refine gate_callee (f := 59) rfl ?_); refine goesL_ (some 11) rfl rfl Try.func59 (by kernel_rfl) rfl #[.slice A0 l0.length c0, .int .i64 a1] rfl Zc ?_; (with_reducible refine (spec_weReach.calls k _ _ l0 a1 true _ ?side1 ?side2 A3.out).mono ?_); (case side1 => exact CS HR0.out); (case side2 => exact HC0.out); rintro e w' ⟨rfl, ⟨nd, rfl⟩⟩; refine ⟨_, rfl, ?_⟩) | ((with_reducible refine gate_callee (f := 60) rfl ?_); refine goesL_ (some 15) rfl rfl Try.func60 (by kernel_rfl) rfl #[.slice A0 l0.length c0, .int .i64 a1] rfl Zc ?_; (with_reducible refine (spec_weWays.calls k _ _ l0 a1 t311 _ ?side1 ?side2 A5.out).mono ?_); (case side1 => exact CS HR0.out); (case side2 => exact HC0.out); rintro e w10 ⟨v312, rfl, ho0, hb⟩; refine ⟨_, rfl, ?_⟩; have n0_ := Aside0.mk (Kd.R_lower ho0 (below_size (BS HB.out))); have n1_ := Aside0.mk (below_step (BS HB.out) hb); clear HB; have HO313 := n0_; have HB := n1_; clear n0_ n1_; (try clear hb); (try clear hb2); (try clear hk); (try clear hi); (try clear ho0); obtain ⟨Ao11, co11, eo11⟩ := Kd.R_slice HO313.out; subst eo11; have p314 : 0 ≤ (0 : Int) := (by omega); have q314 : 0 < (t311.length : Int) := OD; obtain ⟨ad314, e314, hx314_0⟩ := Kd.at_int (Kd.R_reads' HO313.out).2.2 0 p314 q314; cases e314; have qi314 : (0 < t311.length) = True := eq_true (by omega); (try rw [show ((0 : Int)).toNat = 0 from rfl] at hx314_0); (try rw [Addr.add_zero'] at hx314_0); replace p314 := eq_true p314; replace q314 := eq_true q314))
    go_loopg [7, 8] k (fun kq v7 v8 w' => ∃ (x7_1 : List Int) (x8_1 : Int), v8 = .int .i64 x8_1 ∧ Aside0 (spec_FirstWearClimb.l0 kq l0 a1 t311 x7_1 x8_1 = some (r1, r2)) ∧ Aside0 (kq ≤ k) ∧ Aside0 (Kd.R (Kd.int .i64) 3 w' w.heap.size (fun k_ => some k_ ≠ (v7 : Value).ownBlock) (.slice (some ad314) t311.length co11) t311) ∧ Aside0 (Kd.R (Kd.int .i64) 3 w' w.heap.size (fun k_ => some k_ ≠ ((.slice (some ad314) t311.length co11) : Value).ownBlock) v7 x7_1) ∧ Aside0 (Below w.heap.size w w'))
    case atStart => exact ⟨(([] : List Int)), (0), Za, H', ⟨Nat.le_refl _⟩, ⟨RS (Kd.R_mono HO313.out (fun _ hk => (by simp [Value.ownBlock])))⟩, ⟨by first | exact Kd.R_nil _ _ _ _ _ | exact Kd.N_nil _ _ _ _ _ | exact Kd.V_nil _ _ _ _ _ | exact Kd.Q_nil _ _ _ _ _ | exact Kd.S_nil _ _ _ _ _⟩, ⟨BS HB.out⟩⟩
    case round =>
     clear H'
     (try clear p2); (try clear c3); (try clear p3); (try clear q3); (try clear hx3); (try clear qi3); (try clear c4); (try clear c5); (try clear c6); (try clear c6b0); (try clear c6b1); (try clear c7); (try clear c7b0); (try clear c7b1); (try clear hx314_0); (try clear p314); (try clear q314)
     obtain ⟨x7_1, x8_1, rfl, HA, HK1, HO_6, HO_7, HB⟩ := hrel
     cases gk with
     | zero => exact absurd HA.out (by simp [spec_FirstWearClimb.l0])
     | succ k1 =>
      have H := HA.out
      clear HA
      simp only [spec_FirstWearClimb.l0] at H
      by_cases c12 : (wrap64 ((wrap64 ((l0.length : Int) + 1)) - x8_1)) > a1
      ·rw [if_pos c12] at H
       have c12b0 : decide (a1 < (wrap64 ((wrap64 ((l0.length : Int) + 1)) - x8_1))) = true := decide_eq_true c12
       clear c12
       have H' := Aside0.mk H
       clear H
       go_wp2
       go_loopg [8] k1 (fun kq v8 w' => ∃ (x8_2 : Int), v8 = .int .i64 x8_2 ∧ Aside0 (spec_FirstWearClimb.l1 kq l0 a1 t311 x7_1 x8_2 = some (r1, r2)) ∧ Aside0 (kq ≤ k1) ∧ Aside0 (Kd.R (Kd.int .i64) 3 w' w.heap.size (fun k_ => some k_ ≠ (u7 : Value).ownBlock) (.slice (some ad314) t311.length co11) t311) ∧ Aside0 (Kd.R (Kd.int .i64) 3 w' w.heap.size (fun k_ => some k_ ≠ ((.slice (some ad314) t311.length co11) : Value).ownBlock) u7 x7_1) ∧ Aside0 (Below w.heap.size w w'))
       case atStart => exact ⟨(wrap64 (x8_1 + 1)), Za, H', ⟨Nat.le_refl _⟩, ⟨RS HO_6.out⟩, ⟨RS HO_7.out⟩, ⟨BS HB.out⟩⟩
       case round =>
        clear H'
        (try clear c1); (try clear p6); (try clear c12); (try clear c12b0)
        obtain ⟨x8_2, rfl, HA, HK2, HO_6, HO_7, HB⟩ := hrel
        cases gk with
        | zero => exact absurd HA.out (by simp [spec_FirstWearClimb.l1])
        | succ k2 =>
         have H := HA.out
         clear HA
         simp only [spec_FirstWearClimb.l1] at H
         obtain ⟨ji13, hji13⟩ : ∃ j_ : Int, (wrap64 (x8_2 - 1)) = j_ := ⟨_, rfl⟩
         replace H : (if 0 ≤ (ji13) then (if (ji13) < (l0.length : Int) then (if (rd l0 (ji13)) = 0 then (spec_FirstWearClimb.l1 k2 l0 a1 t311 x7_1 (wrap64 (x8_2 + 1))) else (if 0 ≤ x8_2 then (if x8_2 < (t311.length : Int) then (if (rd t311 x8_2) = 0 then (spec_FirstWearClimb.l1 k2 l0 a1 t311 x7_1 (wrap64 (x8_2 + 1))) else (if x7_1.length < 17592186044416 then (spec_FirstWearClimb.l0 k2 l0 a1 t311 (x7_1 ++ [x8_2]) x8_2) else (none))) else (none)) else (none))) else (none)) else (none)) = some (r1, r2) := by first | (rw [hji13] at H; exact H) | (simp only [hji13] at H ⊢; exact H)
         have hji13w : (IntKind.i64.wrap (x8_2 - 1)) = ji13 := (i64_w _).trans hji13
         by_cases c14 : 0 ≤ (ji13)
         ·rw [if_pos c14] at H
          have c14b0 : decide (0 ≤ (ji13)) = true := decide_eq_true c14
          clear c14
          by_cases c15 : (ji13) < (l0.length : Int)
          ·rw [if_pos c15] at H
           have c15b0 : decide ((ji13) < (l0.length : Int)) = true := decide_eq_true c15
           clear c15
           by_cases c16 : (rd l0 (ji13)) = 0
           ·rw [if_pos c16] at H
            have c16b0 : ((rd l0 (ji13)) == 0) = true := beq_iff_eq.mpr c16
            have c16b1 : ((rd l0 (ji13)) != 0) = false := bne_eq_false_iff_eq.mpr c16
            clear c16
            have H' := Aside0.mk H
            clear H
            have p315 : 0 ≤ ((ji13) : Int) := OD
            have q315 : (ji13) < (l0.length : Int) := OD
            obtain ⟨ad315, e315, hx315_0⟩ := Kd.at_int HR0.out (ji13) p315 q315
            cases e315
            replace hx315_0 := (HB.out.cell (World.block_lt_of_cell? w _ hx315_0)).trans hx315_0
            replace p315 := eq_true p315
            replace q315 := eq_true q315
            go_wp2
            go_roundg k2
            case measure => have := HK1.out; have := HK2.out; omega
            case rel => exact ⟨(wrap64 (x8_2 + 1)), Za, H', ⟨by have := HK1.out; have := HK2.out; omega⟩, ⟨RS HO_6.out⟩, ⟨RS HO_7.out⟩, ⟨BS HB.out⟩⟩
           ·rw [if_neg c16] at H
            have c16b0 : ((rd l0 (ji13)) == 0) = false := beq_eq_false_iff_ne.mpr c16
            have c16b1 : ((rd l0 (ji13)) != 0) = true := bne_iff_ne.mpr c16
            by_cases c17 : 0 ≤ x8_2
            ·rw [if_pos c17] at H
             have c17b0 : decide (0 ≤ x8_2) = true := decide_eq_true c17
             clear c17
             by_cases c18 : x8_2 < (t311.length : Int)
             ·rw [if_pos c18] at H
              have c18b0 : decide (x8_2 < (t311.length : Int)) = true := decide_eq_true c18
              clear c18
              by_cases c19 : (rd t311 x8_2) = 0
              ·rw [if_pos c19] at H
               have c19b0 : ((rd t311 x8_2) == 0) = true := beq_iff_eq.mpr c19
               have c19b1 : ((rd t311 x8_2) != 0) = false := bne_eq_false_iff_eq.mpr c19
               clear c19
               have H' := Aside0.mk H
               clear H
               have p315 : 0 ≤ ((ji13) : Int) := OD
               have q315 : (ji13) < (l0.length : Int) := OD
               obtain ⟨ad315, e315, hx315_0⟩ := Kd.at_int HR0.out (ji13) p315 q315
               cases e315
               replace hx315_0 := (HB.out.cell (World.block_lt_of_cell? w _ hx315_0)).trans hx315_0
               replace p315 := eq_true p315
               replace q315 := eq_true q315
               have p316 : 0 ≤ (x8_2 : Int) := OD
               have q316 : x8_2 < (t311.length : Int) := OD
               obtain ⟨ad316, e316, hx316_0⟩ := Kd.at_int (Kd.R_reads' HO_6.out).2.2 x8_2 p316 q316
               obtain rfl : ad314 = ad316 := (by injection e316)
               replace p316 := eq_true p316
               replace q316 := eq_true q316
               go_wp2
               go_roundg k2
               case measure => have := HK1.out; have := HK2.out; omega
               case rel => exact ⟨(wrap64 (x8_2 + 1)), Za, H', ⟨by have := HK1.out; have := HK2.out; omega⟩, ⟨RS HO_6.out⟩, ⟨RS HO_7.out⟩, ⟨BS HB.out⟩⟩
              ·rw [if_neg c19] at H
               have c19b0 : ((rd t311 x8_2) == 0) = false := beq_eq_false_iff_ne.mpr c19
               have c19b1 : ((rd t311 x8_2) != 0) = true := bne_iff_ne.mpr c19
               by_cases c20 : x7_1.length < 17592186044416
               ·rw [if_pos c20] at H
                have LMc20 := Aside0.mk c20
                clear c20
                obtain ⟨y317, hy317⟩ : ∃ y_ : List Int, y_ = (x7_1 ++ [x8_2]) := ⟨_, rfl⟩
                replace H : (spec_FirstWearClimb.l0 k2 l0 a1 t311 y317 x8_2) = some (r1, r2) := by first | (rw [hy317]; with_reducible exact H) | (have H2_ := (Option.bind_some _ _).symm.trans H; rw [hy317]; with_reducible exact H2_) | (have H2_ := (Option.bind_some _ _).symm.trans H; with_reducible exact H2_) | with_reducible exact H | (rw [hy317]; exact H) | exact H
                have Ny317 := Aside0.mk hy317
                clear hy317
                have H' := Aside0.mk H
                clear H
                have p315 : 0 ≤ ((ji13) : Int) := OD
                have q315 : (ji13) < (l0.length : Int) := OD
                obtain ⟨ad315, e315, hx315_0⟩ := Kd.at_int HR0.out (ji13) p315 q315
                cases e315
                replace hx315_0 := (HB.out.cell (World.block_lt_of_cell? w _ hx315_0)).trans hx315_0
                replace p315 := eq_true p315
                replace q315 := eq_true q315
                have p316 : 0 ≤ (x8_2 : Int) := OD
                have q316 : x8_2 < (t311.length : Int) := OD
                obtain ⟨ad316, e316, hx316_0⟩ := Kd.at_int (Kd.R_reads' HO_6.out).2.2 x8_2 p316 q316
                obtain rfl : ad314 = ad316 := (by injection e316)
                replace p316 := eq_true p316
                replace q316 := eq_true q316
                go_wp2_with (first | ((with_reducible refine gate_builtin (b := .append) (xs := #[.tmp 44, .tmp 46]) rfl ?_); at_builtin; refine Kd.R_append (Kd.int .i64) (w0 := w) w.heap.size rfl (.tmp 44) (.tmp 46) 22 3 (.int .i64 0) 8 rfl Try.underlying22 info3 rfl (by decide) (by omega) u7 x7_1 x8_2 [.int .i64 x8_2] (fun k_ => some k_ ≠ (.slice (some ad314) t311.length co11 : Value).ownBlock) (fun _ => False) rfl rfl ?aP (fun _ hk => hk.elim) ?aF ?aO ?aB ?aS ?aL ?_; (case aP => exact rfl); (case aB => exact (BS HB.out)); (case aF => exact (fun k_ hk => Kd.fresh' (Kd.R_lt (RS HO_6.out)) k_ hk)); (case aO => exact (RS HO_7.out)); (case aS => exact (below_size (BS HB.out))); (case aL => have := LMc20.out; omega); intro v318 w21 ho hb hg hat; rw [← Ny317.out] at ho; have n0_ := Aside0.mk (Kd.R_after (ok := (fun _ => True)) (RS (Kd.R_mono HO_6.out (fun _ hk => ⟨trivial, hk⟩))) hg hat); have n1_ := Aside0.mk (hb); have n2_ := Aside0.mk (ho); clear HO_6; clear HB; clear HO_7; have HO_6 := n0_; have HB := n1_; have HO319 := n2_; clear n0_ n1_ n2_; clear ho hb hg hat))
                go_roundg k2
                case measure => have := HK1.out; have := HK2.out; omega
                case rel => exact ⟨(y317), (x8_2), Za, H', ⟨by have := HK1.out; have := HK2.out; omega⟩, ⟨RS (Kd.R_mono HO_6.out (fun _ hk => hk.2))⟩, ⟨RS HO319.out⟩, ⟨BS HB.out⟩⟩
               ·rw [if_neg c20] at H
                exact absurd H (by simp)
             ·rw [if_neg c18] at H
              exact absurd H (by simp)
            ·rw [if_neg c17] at H
             exact absurd H (by simp)
          ·rw [if_neg c15] at H
           exact absurd H (by simp)
         ·rw [if_neg c14] at H
          exact absurd H (by simp)
      ·rw [if_neg c12] at H
       have c12b0 : decide (a1 < (wrap64 ((wrap64 ((l0.length : Int) + 1)) - x8_1))) = false := decide_eq_false c12
       clear c12
       simp only [Option.some.injEq, Prod.mk.injEq] at H
       obtain ⟨rfl, rfl⟩ := H
       go_wp2
       go_ret2
       exact ⟨_, Zb, RS (Kd.R_mono HO_7.out (fun _ hk => trivial)), BS HB.out⟩
  ·rw [if_neg c6] at H
   exact absurd H (by simp)
 ·replace c4 := Bool.eq_false_iff.mpr c4
  subst c4
  have H1 : (some (([] : List Int), false)) = some (r1, r2) := by rw [if_neg (show ¬ (false = true) by decide)] at H; exact H
  clear H
  have H := H1
  clear H1
  simp only [Option.some.injEq, Prod.mk.injEq] at H
  obtain ⟨rfl, rfl⟩ := H
  go_enter Try.func30, Try.ntmps30
  go_wp2_with (first | ((with_reducible refine gate_callee (f := 59) rfl ?_); refine goesL_ (some 11) rfl rfl Try.func59 (by kernel_rfl) rfl #[.slice A0 l0.length c0, .int .i64 a1] rfl Zc ?_; (with_reducible refine (spec_weReach.calls k _ _ l0 a1 false _ ?side1 ?side2 A3.out).mono ?_); (case side1 => exact CS HR0.out); (case side2 => exact HC0.out); rintro e w' ⟨rfl, ⟨nd, rfl⟩⟩; refine ⟨_, rfl, ?_⟩))
  go_ret2
  exact ⟨_, Zb, by first | exact Kd.R_nil _ _ _ _ _ | exact Kd.N_nil _ _ _ _ _ | exact Kd.V_nil _ _ _ _ _ | exact Kd.Q_nil _ _ _ _ _ | exact Kd.S_nil _ _ _ _ _, BS HB.out⟩

/-! ### impl_FewestOnWear: function 31 -/
def impl_FewestOnWear.f (k : Nat) (l0 : List Int) (a1 : Int) : Option (Int × Bool) := (impl_canWear.f k l0 a1).bind fun t320 => (if t320 = true then ((impl_ways.f k l0 a1).bind fun bt321 => (if 0 < (bt321.2.length : Int) then (if (rd bt321.2 0) < 0 then (some (0, false)) else (some (rd bt321.2 0, true))) else (none))) else (some (0, false)))
set_option maxHeartbeats 8000000 in
set_option maxRecDepth 100000 in
theorem impl_FewestOnWear.calls (k : Nat) (A0 : Option Addr) (c0 : Nat) (l0 : List Int) (a1 : Int) (r1 : Int) (r2 : Bool) (w : World) (hr0 : Kd.C (Kd.int .i64) w A0 l0.length l0) (hc0 : l0.length ≤ c0) (h : impl_FewestOnWear.f k l0 a1 = some (r1, r2)) :
  Calls Try.prog 31 #[.slice A0 l0.length c0, .int .i64 a1] w fun e w' => e = .returned (.tuple #[.int .i64 r1, .bool r2]) ∧ Below w.heap.size w w' := by
 have HR0 := Aside0.mk hr0
 have HC0 := Aside0.mk hc0
 clear hr0 hc0
 have HB := Aside0.mk (Below.refl w.heap.size w)
 have H : ((impl_canWear.f k l0 a1).bind fun t320 => (if t320 = true then ((impl_ways.f k l0 a1).bind fun bt321 => (if 0 < (bt321.2.length : Int) then (if (rd bt321.2 0) < 0 then (some (0, false)) else (some (rd bt321.2 0, true))) else (none))) else (some (0, false)))) = some (r1, r2) := h
 clear h
 replace H := Option.bind_eq_some_iff.mp H
 obtain ⟨t320, A30, H⟩ := H
 try dsimp only at H
 have A3 := Aside0.mk A30
 clear A30
 by_cases c4 : t320 = true
 ·subst c4
  have H1 : ((impl_ways.f k l0 a1).bind fun bt321 => (if 0 < (bt321.2.length : Int) then (if (rd bt321.2 0) < 0 then (some (0, false)) else (some (rd bt321.2 0, true))) else (none))) = some (r1, r2) := by rw [if_pos rfl] at H; exact H
  clear H
  have H := H1
  clear H1
  replace H := Option.bind_eq_some_iff.mp H
  obtain ⟨⟨t321, t322⟩, A50, H⟩ := H
  try dsimp only at H
  have A5 := Aside0.mk A50
  clear A50
  by_cases c6 : 0 < (t322.length : Int)
  ·rw [if_pos c6] at H
   have c6b0 : decide (0 < (t322.length : Int)) = true := decide_eq_true c6
   have c6b1 : decide (0 < t322.length) = true := decide_eq_true (by omega)
   clear c6
   by_cases c7 : (rd t322 0) < 0
   ·rw [if_pos c7] at H
    have c7b0 : decide ((rd t322 0) < 0) = true := decide_eq_true c7
    clear c7
    simp only [Option.some.injEq, Prod.mk.injEq] at H
    obtain ⟨rfl, rfl⟩ := H
    go_enter Try.func31, Try.ntmps31
    go_wp2_with (first | ((with_reducible refine gate_callee (f := 57) rfl ?_); refine goesL_ (some 10) rfl rfl Try.func57 (by kernel_rfl) rfl #[.slice A0 l0.length c0, .int .i64 a1] rfl Zc ?_; (with_reducible refine (impl_canWear.calls k _ _ l0 a1 true _ ?side1 ?side2 A3.out).mono ?_); (case side1 => exact CS HR0.out); (case side2 => exact HC0.out); rintro e w' ⟨rfl, ⟨nd, rfl⟩⟩; refine ⟨_, rfl, ?_⟩) | ((with_reducible refine gate_callee (f := 58) rfl ?_); refine goesL_ (some 15) rfl rfl Try.func58 (by kernel_rfl) rfl #[.slice A0 l0.length c0, .int .i64 a1] rfl Zc ?_; (with_reducible refine (impl_ways.calls k _ _ l0 a1 t321 t322 _ ?side1 ?side2 A5.out).mono ?_); (case side1 => exact CS HR0.out); (case side2 => exact HC0.out); rintro e w8 ⟨v323, v325, rfl, ho0, ho1, hb⟩; refine ⟨_, rfl, ?_⟩; have n0_ := Aside0.mk (Kd.R_lower ho0 (below_size (BS HB.out))); have n1_ := Aside0.mk (Kd.R_lower ho1 (below_size (BS HB.out))); have n2_ := Aside0.mk (below_step (BS HB.out) hb); clear HB; have HO324 := n0_; have HO326 := n1_; have HB := n2_; clear n0_ n1_ n2_; (try clear hb); (try clear hb2); (try clear hk); (try clear hi); (try clear ho0); (try clear ho1); obtain ⟨Ao9, co9, eo9⟩ := Kd.R_slice HO326.out; subst eo9; have p327 : 0 ≤ (0 : Int) := (by omega); have q327 : 0 < (t322.length : Int) := OD; obtain ⟨ad327, e327, hx327_0⟩ := Kd.at_int (Kd.R_reads' HO326.out).2.2 0 p327 q327; cases e327; have qi327 : (0 < t322.length) = True := eq_true (by omega); (try rw [show ((0 : Int)).toNat = 0 from rfl] at hx327_0); (try rw [Addr.add_zero'] at hx327_0); replace p327 := eq_true p327; replace q327 := eq_true q327))
    go_ret2
    exact ⟨Zb, BS HB.out⟩
   ·rw [if_neg c7] at H
    have c7b0 : decide ((rd t322 0) < 0) = false := decide_eq_false c7
    clear c7
    simp only [Option.some.injEq, Prod.mk.injEq] at H
    obtain ⟨rfl, rfl⟩ := H
    go_enter Try.func31, Try.ntmps31
    go_wp2_with (first | ((with_reducible refine gate_callee (f := 57) rfl ?_); refine goesL_ (some 10) rfl rfl Try.func57 (by kernel_rfl) rfl #[.slice A0 l0.length c0, .int .i64 a1] rfl Zc ?_; (with_reducible refine (impl_canWear.calls k _ _ l0 a1 true _ ?side1 ?side2 A3.out).mono ?_); (case side1 => exact CS HR0.out); (case side2 => exact HC0.out); rintro e w' ⟨rfl, ⟨nd, rfl⟩⟩; refine ⟨_, rfl, ?_⟩) | ((with_reducible refine gate_callee (f := 58) rfl ?_); refine goesL_ (some 15) rfl rfl Try.func58 (by kernel_rfl) rfl #[.slice A0 l0.length c0, .int .i64 a1] rfl Zc ?_; (with_reducible refine (impl_ways.calls k _ _ l0 a1 t321 t322 _ ?side1 ?side2 A5.out).mono ?_); (case side1 => exact CS HR0.out); (case side2 => exact HC0.out); rintro e w10 ⟨v323, v325, rfl, ho0, ho1, hb⟩; refine ⟨_, rfl, ?_⟩; have n0_ := Aside0.mk (Kd.R_lower ho0 (below_size (BS HB.out))); have n1_ := Aside0.mk (Kd.R_lower ho1 (below_size (BS HB.out))); have n2_ := Aside0.mk (below_step (BS HB.out) hb); clear HB; have HO324 := n0_; have HO326 := n1_; have HB := n2_; clear n0_ n1_ n2_; (try clear hb); (try clear hb2); (try clear hk); (try clear hi); (try clear ho0); (try clear ho1); obtain ⟨Ao11, co11, eo11⟩ := Kd.R_slice HO326.out; subst eo11; have p327 : 0 ≤ (0 : Int) := (by omega); have q327 : 0 < (t322.length : Int) := OD; obtain ⟨ad327, e327, hx327_0⟩ := Kd.at_int (Kd.R_reads' HO326.out).2.2 0 p327 q327; cases e327; have qi327 : (0 < t322.length) = True := eq_true (by omega); (try rw [show ((0 : Int)).toNat = 0 from rfl] at hx327_0); (try rw [Addr.add_zero'] at hx327_0); replace p327 := eq_true p327; replace q327 := eq_true q327; have p328 : 0 ≤ (0 : Int) := (by omega); have q328 : 0 < (t322.length : Int) := OD; obtain ⟨ad328, e328, hx328_0⟩ := Kd.at_int (Kd.R_reads' HO326.out).2.2 0 p328 q328; obtain rfl : ad327 = ad328 := (by injection e328); have qi328 : (0 < t322.length) = True := eq_true (by omega); (try rw [show ((0 : Int)).toNat = 0 from rfl] at hx328_0); (try rw [Addr.add_zero'] at hx328_0); replace p328 := eq_true p328; replace q328 := eq_true q328))
    go_ret2
    exact ⟨Zb, BS HB.out⟩
  ·rw [if_neg c6] at H
   exact absurd H (by simp)
 ·replace c4 := Bool.eq_false_iff.mpr c4
  subst c4
  have H1 : (some (0, false)) = some (r1, r2) := by rw [if_neg (show ¬ (false = true) by decide)] at H; exact H
  clear H
  have H := H1
  clear H1
  simp only [Option.some.injEq, Prod.mk.injEq] at H
  obtain ⟨rfl, rfl⟩ := H
  go_enter Try.func31, Try.ntmps31
  go_wp2_with (first | ((with_reducible refine gate_callee (f := 57) rfl ?_); refine goesL_ (some 10) rfl rfl Try.func57 (by kernel_rfl) rfl #[.slice A0 l0.length c0, .int .i64 a1] rfl Zc ?_; (with_reducible refine (impl_canWear.calls k _ _ l0 a1 false _ ?side1 ?side2 A3.out).mono ?_); (case side1 => exact CS HR0.out); (case side2 => exact HC0.out); rintro e w' ⟨rfl, ⟨nd, rfl⟩⟩; refine ⟨_, rfl, ?_⟩))
  go_ret2
  exact ⟨Zb, BS HB.out⟩

/-! ### spec_FewestOnWear: function 32 -/
mutual
def spec_FewestOnWear.j0 : Nat → List Int → Int → Bool → Option (Int × Bool)
 | 0, _, _, _ => none
 | k + 1, x0, x1, x19 => if x19 = true then (some (0, false)) else (spec_FewestOnWear.l0 k x0 x1 0 0)
def spec_FewestOnWear.l0 : Nat → List Int → Int → Int → Int → Option (Int × Bool)
 | 0, _, _, _, _ => none
 | k + 1, x0, x1, x6, x7 => if (wrap64 ((wrap64 ((x0.length : Int) + 1)) - x7)) > x1 then (spec_FewestOnWear.l1 k x0 x1 x6 (wrap64 (x7 + x1))) else (some (x6, true))
def spec_FewestOnWear.l1 : Nat → List Int → Int → Int → Int → Option (Int × Bool)
 | 0, _, _, _, _ => none
 | k + 1, x0, x1, x6, x7 => if 0 ≤ (wrap64 (x7 - 1)) then (if (wrap64 (x7 - 1)) < (x0.length : Int) then (if (rd x0 (wrap64 (x7 - 1))) = 0 then (spec_FewestOnWear.l1 k x0 x1 x6 (wrap64 (x7 - 1))) else (spec_FewestOnWear.l0 k x0 x1 (wrap64 (x6 + 1)) x7)) else (none)) else (none)
end
def spec_FewestOnWear.f (k : Nat) (l0 : List Int) (a1 : Int) : Option (Int × Bool) := (spec_weReach.f k l0 a1).bind fun t329 => (if t329 = true then ((spec_weWays.f k l0 a1).bind fun t330 => (if 0 < (t330.length : Int) then (spec_FewestOnWear.j0 k l0 a1 ((rd t330 0) == 0)) else (none))) else (spec_FewestOnWear.j0 k l0 a1 true))
set_option maxHeartbeats 8000000 in
set_option maxRecDepth 100000 in
theorem spec_FewestOnWear.calls (k : Nat) (A0 : Option Addr) (c0 : Nat) (l0 : List Int) (a1 : Int) (r1 : Int) (r2 : Bool) (w : World) (hr0 : Kd.C (Kd.int .i64) w A0 l0.length l0) (hc0 : l0.length ≤ c0) (h : spec_FewestOnWear.f k l0 a1 = some (r1, r2)) :
  Calls Try.prog 32 #[.slice A0 l0.length c0, .int .i64 a1] w fun e w' => e = .returned (.tuple #[.int .i64 r1, .bool r2]) ∧ Below w.heap.size w w' := by
 have HR0 := Aside0.mk hr0
 have HC0 := Aside0.mk hc0
 clear hr0 hc0
 have HB := Aside0.mk (Below.refl w.heap.size w)
 have H : ((spec_weReach.f k l0 a1).bind fun t329 => (if t329 = true then ((spec_weWays.f k l0 a1).bind fun t330 => (if 0 < (t330.length : Int) then (spec_FewestOnWear.j0 k l0 a1 ((rd t330 0) == 0)) else (none))) else (spec_FewestOnWear.j0 k l0 a1 true))) = some (r1, r2) := h
 clear h
 have HC3 := Aside0.mk H
 clear H
 go_enter Try.func32, Try.ntmps32
 go_upto_region 1 with (fail)
 go_cut [19] from 19 to 19 (fun v19 wc => ∃ (kq : Nat) (x19_2 : Bool), v19 = .bool x19_2 ∧ Aside0 (spec_FewestOnWear.j0 kq l0 a1 x19_2 = some (r1, r2)) ∧ Aside0 (kq ≤ k) ∧ Aside0 (Below w.heap.size w wc))
 case first =>
  have H := HC3.out
  clear HC3
  replace H := Option.bind_eq_some_iff.mp H
  obtain ⟨t329, A40, H⟩ := H
  try dsimp only at H
  have A4 := Aside0.mk A40
  clear A40
  by_cases c5 : t329 = true
  ·subst c5
   have H1 : ((spec_weWays.f k l0 a1).bind fun t330 => (if 0 < (t330.length : Int) then (spec_FewestOnWear.j0 k l0 a1 ((rd t330 0) == 0)) else (none))) = some (r1, r2) := by rw [if_pos rfl] at H; exact H
   clear H
   have H := H1
   clear H1
   replace H := Option.bind_eq_some_iff.mp H
   obtain ⟨t330, A60, H⟩ := H
   try dsimp only at H
   have A6 := Aside0.mk A60
   clear A60
   by_cases c7 : 0 < (t330.length : Int)
   ·rw [if_pos c7] at H
    have c7b0 : decide (0 < (t330.length : Int)) = true := decide_eq_true c7
    have c7b1 : decide (0 < t330.length) = true := decide_eq_true (by omega)
    clear c7
    (first | rw [c7b0] | (simp only [i64_w, i32_w]; rw [c7b0]) | skip)
    have H' := Aside0.mk H
    clear H
    go_wp2_with (first | ((with_reducible refine gate_callee (f := 59) rfl ?_); refine goesL_ (some 10) rfl rfl Try.func59 (by kernel_rfl) rfl #[.slice A0 l0.length c0, .int .i64 a1] rfl Zc ?_; (with_reducible refine (spec_weReach.calls k _ _ l0 a1 true _ ?side1 ?side2 A4.out).mono ?_); (case side1 => exact CS (Kd.C_below HR0.out HB.out)); (case side2 => exact HC0.out); rintro e w' ⟨rfl, ⟨nd, rfl⟩⟩; refine ⟨_, rfl, ?_⟩) | (go_at_call 60; (with_reducible refine (spec_weWays.calls k _ _ l0 a1 t330 _ ?side1 ?side2 A6.out).mono ?_); (case side1 => exact (Kd.C_below HR0.out (BS HB.out))); (case side2 => exact HC0.out); rintro e w8 ⟨v331, rfl, ho0, hb⟩; have n0_ := Aside0.mk (Kd.R_lower ho0 (below_size (BS HB.out))); have n1_ := Aside0.mk (below_step (BS HB.out) hb); clear HB; have HO332 := n0_; have HB := n1_; clear n0_ n1_; (try clear hb); (try clear hb2); (try clear hk); (try clear hi); (try clear ho0); obtain ⟨Ao9, co9, eo9⟩ := Kd.R_slice HO332.out; subst eo9; have p333 : 0 ≤ (0 : Int) := (by omega); have q333 : 0 < (t330.length : Int) := OD; obtain ⟨ad333, e333, hx333_0⟩ := Kd.at_int (Kd.R_reads' HO332.out).2.2 0 p333 q333; cases e333; have qi333 : (0 < t330.length) = True := eq_true (by omega); (try rw [show ((0 : Int)).toNat = 0 from rfl] at hx333_0); (try rw [Addr.add_zero'] at hx333_0); replace p333 := eq_true p333; replace q333 := eq_true q333))
    go_meet
    case rel => exact ⟨_, (((rd t330 0) == 0)), Za, H', ⟨by first | omega | exact Nat.le_refl _⟩, ⟨BS HB.out⟩⟩
   ·rw [if_neg c7] at H
    exact absurd H (by simp)
  ·replace c5 := Bool.eq_false_iff.mpr c5
   subst c5
   have H1 : (spec_FewestOnWear.j0 k l0 a1 true) = some (r1, r2) := by rw [if_neg (show ¬ (false = true) by decide)] at H; exact H
   clear H
   have H := H1
   clear H1
   have H' := Aside0.mk H
   clear H
   go_wp2_with (first | ((with_reducible refine gate_callee (f := 59) rfl ?_); refine goesL_ (some 10) rfl rfl Try.func59 (by kernel_rfl) rfl #[.slice A0 l0.length c0, .int .i64 a1] rfl Zc ?_; (with_reducible refine (spec_weReach.calls k _ _ l0 a1 false _ ?side1 ?side2 A4.out).mono ?_); (case side1 => exact CS (Kd.C_below HR0.out HB.out)); (case side2 => exact HC0.out); rintro e w' ⟨rfl, ⟨nd, rfl⟩⟩; refine ⟨_, rfl, ?_⟩))
   go_meet
   case rel => exact ⟨_, (true), Za, H', ⟨by first | omega | exact Nat.le_refl _⟩, ⟨BS HB.out⟩⟩
 case rest =>
  clear HC3
  (try clear p2); (try clear c3); (try clear p3); (try clear q3); (try clear hx3); (try clear qi3); (try clear c5); (try clear c7); (try clear c7b0); (try clear c7b1); (try clear hx333_0); (try clear p333); (try clear q333)
  obtain ⟨kq, x19_2, rfl, HA, HJ2, HB⟩ := hcut
  cases kq with
  | zero => exact absurd HA.out (by simp [spec_FewestOnWear.j0])
  | succ kj2 =>
   have H := HA.out
   clear HA
   simp only [spec_FewestOnWear.j0] at H
   by_cases c10 : x19_2 = true
   ·subst c10
    have H1 : (some (0, false)) = some (r1, r2) := by rw [if_pos rfl] at H; exact H
    clear H
    have H := H1
    clear H1
    simp only [Option.some.injEq, Prod.mk.injEq] at H
    obtain ⟨rfl, rfl⟩ := H
    go_wp2
    go_ret2
    exact ⟨Zb, BS HB.out⟩
   ·replace c10 := Bool.eq_false_iff.mpr c10
    subst c10
    have H1 : (spec_FewestOnWear.l0 kj2 l0 a1 0 0) = some (r1, r2) := by rw [if_neg (show ¬ (false = true) by decide)] at H; exact H
    clear H
    have H := H1
    clear H1
    have H' := Aside0.mk H
    clear H
    go_wp2
    go_loopg [6, 7] kj2 (fun kq v6 v7 w' => ∃ (x6_2 : Int) (x7_2 : Int), v6 = .int .i64 x6_2 ∧ v7 = .int .i64 x7_2 ∧ Aside0 (spec_FewestOnWear.l0 kq l0 a1 x6_2 x7_2 = some (r1, r2)) ∧ Aside0 (kq ≤ kj2) ∧ Aside0 (Below w.heap.size w w'))
    case atStart => exact ⟨(0), (0), Za, Za, H', ⟨Nat.le_refl _⟩, ⟨BS HB.out⟩⟩
    case round =>
     clear H'
     (try clear c1); (try clear c10)
     obtain ⟨x6_2, x7_2, rfl, rfl, HA, HK2, HB⟩ := hrel
     cases gk with
     | zero => exact absurd HA.out (by simp [spec_FewestOnWear.l0])
     | succ k2 =>
      have H := HA.out
      clear HA
      simp only [spec_FewestOnWear.l0] at H
      by_cases c11 : (wrap64 ((wrap64 ((l0.length : Int) + 1)) - x7_2)) > a1
      ·rw [if_pos c11] at H
       have c11b0 : decide (a1 < (wrap64 ((wrap64 ((l0.length : Int) + 1)) - x7_2))) = true := decide_eq_true c11
       clear c11
       have H' := Aside0.mk H
       clear H
       go_wp2
       go_loopg [7] k2 (fun kq v7 w' => ∃ (x7_3 : Int), v7 = .int .i64 x7_3 ∧ Aside0 (spec_FewestOnWear.l1 kq l0 a1 x6_2 x7_3 = some (r1, r2)) ∧ Aside0 (kq ≤ k2) ∧ Aside0 (Below w.heap.size w w'))
       case atStart => exact ⟨(wrap64 (x7_2 + a1)), Za, H', ⟨Nat.le_refl _⟩, ⟨BS HB.out⟩⟩
       case round =>
        clear H'
        (try clear p6); (try clear c11); (try clear c11b0)
        obtain ⟨x7_3, rfl, HA, HK3, HB⟩ := hrel
        cases gk with
        | zero => exact absurd HA.out (by simp [spec_FewestOnWear.l1])
        | succ k3 =>
         have H := HA.out
         clear HA
         simp only [spec_FewestOnWear.l1] at H
         obtain ⟨ji12, hji12⟩ : ∃ j_ : Int, (wrap64 (x7_3 - 1)) = j_ := ⟨_, rfl⟩
         replace H : (if 0 ≤ (ji12) then (if (ji12) < (l0.length : Int) then (if (rd l0 (ji12)) = 0 then (spec_FewestOnWear.l1 k3 l0 a1 x6_2 ji12) else (spec_FewestOnWear.l0 k3 l0 a1 (wrap64 (x6_2 + 1)) x7_3)) else (none)) else (none)) = some (r1, r2) := by first | (rw [hji12] at H; exact H) | (simp only [hji12] at H ⊢; exact H)
         have hji12w : (IntKind.i64.wrap (x7_3 - 1)) = ji12 := (i64_w _).trans hji12
         by_cases c13 : 0 ≤ (ji12)
         ·rw [if_pos c13] at H
          have c13b0 : decide (0 ≤ (ji12)) = true := decide_eq_true c13
          clear c13
          by_cases c14 : (ji12) < (l0.length : Int)
          ·rw [if_pos c14] at H
           have c14b0 : decide ((ji12) < (l0.length : Int)) = true := decide_eq_true c14
           clear c14
           by_cases c15 : (rd l0 (ji12)) = 0
           ·rw [if_pos c15] at H
            have c15b0 : ((rd l0 (ji12)) == 0) = true := beq_iff_eq.mpr c15
            have c15b1 : ((rd l0 (ji12)) != 0) = false := bne_eq_false_iff_eq.mpr c15
            clear c15
            have H' := Aside0.mk H
            clear H
            have p334 : 0 ≤ ((ji12) : Int) := OD
            have q334 : (ji12) < (l0.length : Int) := OD
            obtain ⟨ad334, e334, hx334_0⟩ := Kd.at_int HR0.out (ji12) p334 q334
            cases e334
            replace hx334_0 := (HB.out.cell (World.block_lt_of_cell? w _ hx334_0)).trans hx334_0
            replace p334 := eq_true p334
            replace q334 := eq_true q334
            go_wp2
            go_roundg k3
            case measure => have := HJ2.out; have := HK2.out; have := HK3.out; omega
            case rel => exact ⟨(ji12), (by first | rfl | (simp; done) | (simp only [← hji12] <;> (first | rfl | simp)) | (simp [*]; done)), H', ⟨by have := HJ2.out; have := HK2.out; have := HK3.out; omega⟩, ⟨BS HB.out⟩⟩
           ·rw [if_neg c15] at H
            have c15b0 : ((rd l0 (ji12)) == 0) = false := beq_eq_false_iff_ne.mpr c15
            have c15b1 : ((rd l0 (ji12)) != 0) = true := bne_iff_ne.mpr c15
            have H' := Aside0.mk H
            clear H
            have p334 : 0 ≤ ((ji12) : Int) := OD
            have q334 : (ji12) < (l0.length : Int) := OD
            obtain ⟨ad334, e334, hx334_0⟩ := Kd.at_int HR0.out (ji12) p334 q334
            cases e334
            replace hx334_0 := (HB.out.cell (World.block_lt_of_cell? w _ hx334_0)).trans hx334_0
            replace p334 := eq_true p334
            replace q334 := eq_true q334
            go_wp2
            go_roundg k3
            case measure => have := HJ2.out; have := HK2.out; have := HK3.out; omega
            case rel => exact ⟨(wrap64 (x6_2 + 1)), (x7_3), Za, Za, H', ⟨by have := HJ2.out; have := HK2.out; have := HK3.out; omega⟩, ⟨BS HB.out⟩⟩
          ·rw [if_neg c14] at H
           exact absurd H (by simp)
         ·rw [if_neg c13] at H
          exact absurd H (by simp)
      ·rw [if_neg c11] at H
       have c11b0 : decide (a1 < (wrap64 ((wrap64 ((l0.length : Int) + 1)) - x7_2))) = false := decide_eq_false c11
       clear c11
       simp only [Option.some.injEq, Prod.mk.injEq] at H
       obtain ⟨rfl, rfl⟩ := H
       go_wp2
       go_ret2
       exact ⟨Zb, BS HB.out⟩

/-! ### impl_CountWearClimbs: function 33 -/
def impl_CountWearClimbs.f (k : Nat) (l0 : List Int) (a1 : Int) : Option (Int × Bool) := (impl_canWear.f k l0 a1).bind fun t335 => (if t335 = true then ((impl_ways.f k l0 a1).bind fun bt336 => (if 0 < (bt336.1.length : Int) then (if (rd bt336.1 0) > 1000000000000 then (some (0, false)) else (some (rd bt336.1 0, true))) else (none))) else (some (0, false)))
set_option maxHeartbeats 8000000 in
set_option maxRecDepth 100000 in
theorem impl_CountWearClimbs.calls (k : Nat) (A0 : Option Addr) (c0 : Nat) (l0 : List Int) (a1 : Int) (r1 : Int) (r2 : Bool) (w : World) (hr0 : Kd.C (Kd.int .i64) w A0 l0.length l0) (hc0 : l0.length ≤ c0) (h : impl_CountWearClimbs.f k l0 a1 = some (r1, r2)) :
  Calls Try.prog 33 #[.slice A0 l0.length c0, .int .i64 a1] w fun e w' => e = .returned (.tuple #[.int .i64 r1, .bool r2]) ∧ Below w.heap.size w w' := by
 have HR0 := Aside0.mk hr0
 have HC0 := Aside0.mk hc0
 clear hr0 hc0
 have HB := Aside0.mk (Below.refl w.heap.size w)
 have H : ((impl_canWear.f k l0 a1).bind fun t335 => (if t335 = true then ((impl_ways.f k l0 a1).bind fun bt336 => (if 0 < (bt336.1.length : Int) then (if (rd bt336.1 0) > 1000000000000 then (some (0, false)) else (some (rd bt336.1 0, true))) else (none))) else (some (0, false)))) = some (r1, r2) := h
 clear h
 replace H := Option.bind_eq_some_iff.mp H
 obtain ⟨t335, A30, H⟩ := H
 try dsimp only at H
 have A3 := Aside0.mk A30
 clear A30
 by_cases c4 : t335 = true
 ·subst c4
  have H1 : ((impl_ways.f k l0 a1).bind fun bt336 => (if 0 < (bt336.1.length : Int) then (if (rd bt336.1 0) > 1000000000000 then (some (0, false)) else (some (rd bt336.1 0, true))) else (none))) = some (r1, r2) := by rw [if_pos rfl] at H; exact H
  clear H
  have H := H1
  clear H1
  replace H := Option.bind_eq_some_iff.mp H
  obtain ⟨⟨t336, t337⟩, A50, H⟩ := H
  try dsimp only at H
  have A5 := Aside0.mk A50
  clear A50
  by_cases c6 : 0 < (t336.length : Int)
  ·rw [if_pos c6] at H
   have c6b0 : decide (0 < (t336.length : Int)) = true := decide_eq_true c6
   have c6b1 : decide (0 < t336.length) = true := decide_eq_true (by omega)
   clear c6
   by_cases c7 : (rd t336 0) > 1000000000000
   ·rw [if_pos c7] at H
    have c7b0 : decide (1000000000000 < (rd t336 0)) = true := decide_eq_true c7
    clear c7
    simp only [Option.some.injEq, Prod.mk.injEq] at H
    obtain ⟨rfl, rfl⟩ := H
    go_enter Try.func33, Try.ntmps33
    go_wp2_with (first | ((with_reducible refine gate_callee (f := 57) rfl ?_); refine goesL_ (some 10) rfl rfl Try.func57 (by kernel_rfl) rfl #[.slice A0 l0.length c0, .int .i64 a1] rfl Zc ?_; (with_reducible refine (impl_canWear.calls k _ _ l0 a1 true _ ?side1 ?side2 A3.out).mono ?_); (case side1 => exact CS HR0.out); (case side2 => exact HC0.out); rintro e w' ⟨rfl, ⟨nd, rfl⟩⟩; refine ⟨_, rfl, ?_⟩) | ((with_reducible refine gate_callee (f := 58) rfl ?_); refine goesL_ (some 15) rfl rfl Try.func58 (by kernel_rfl) rfl #[.slice A0 l0.length c0, .int .i64 a1] rfl Zc ?_; (with_reducible refine (impl_ways.calls k _ _ l0 a1 t336 t337 _ ?side1 ?side2 A5.out).mono ?_); (case side1 => exact CS HR0.out); (case side2 => exact HC0.out); rintro e w8 ⟨v338, v340, rfl, ho0, ho1, hb⟩; refine ⟨_, rfl, ?_⟩; have n0_ := Aside0.mk (Kd.R_lower ho0 (below_size (BS HB.out))); have n1_ := Aside0.mk (Kd.R_lower ho1 (below_size (BS HB.out))); have n2_ := Aside0.mk (below_step (BS HB.out) hb); clear HB; have HO339 := n0_; have HO341 := n1_; have HB := n2_; clear n0_ n1_ n2_; (try clear hb); (try clear hb2); (try clear hk); (try clear hi); (try clear ho0); (try clear ho1); obtain ⟨Ao9, co9, eo9⟩ := Kd.R_slice HO339.out; subst eo9; have p342 : 0 ≤ (0 : Int) := (by omega); have q342 : 0 < (t336.length : Int) := OD; obtain ⟨ad342, e342, hx342_0⟩ := Kd.at_int (Kd.R_reads' HO339.out).2.2 0 p342 q342; cases e342; have qi342 : (0 < t336.length) = True := eq_true (by omega); (try rw [show ((0 : Int)).toNat = 0 from rfl] at hx342_0); (try rw [Addr.add_zero'] at hx342_0); replace p342 := eq_true p342; replace q342 := eq_true q342))
    go_ret2
    exact ⟨Zb, BS HB.out⟩
   ·rw [if_neg c7] at H
    have c7b0 : decide (1000000000000 < (rd t336 0)) = false := decide_eq_false c7
    clear c7
    simp only [Option.some.injEq, Prod.mk.injEq] at H
    obtain ⟨rfl, rfl⟩ := H
    go_enter Try.func33, Try.ntmps33
    go_wp2_with (first | ((with_reducible refine gate_callee (f := 57) rfl ?_); refine goesL_ (some 10) rfl rfl Try.func57 (by kernel_rfl) rfl #[.slice A0 l0.length c0, .int .i64 a1] rfl Zc ?_; (with_reducible refine (impl_canWear.calls k _ _ l0 a1 true _ ?side1 ?side2 A3.out).mono ?_); (case side1 => exact CS HR0.out); (case side2 => exact HC0.out); rintro e w' ⟨rfl, ⟨nd, rfl⟩⟩; refine ⟨_, rfl, ?_⟩) | ((with_reducible refine gate_callee (f := 58) rfl ?_); refine goesL_ (some 15) rfl rfl Try.func58 (by kernel_rfl) rfl #[.slice A0 l0.length c0, .int .i64 a1] rfl Zc ?_; (with_reducible refine (impl_ways.calls k _ _ l0 a1 t336 t337 _ ?side1 ?side2 A5.out).mono ?_); (case side1 => exact CS HR0.out); (case side2 => exact HC0.out); rintro e w10 ⟨v338, v340, rfl, ho0, ho1, hb⟩; refine ⟨_, rfl, ?_⟩; have n0_ := Aside0.mk (Kd.R_lower ho0 (below_size (BS HB.out))); have n1_ := Aside0.mk (Kd.R_lower ho1 (below_size (BS HB.out))); have n2_ := Aside0.mk (below_step (BS HB.out) hb); clear HB; have HO339 := n0_; have HO341 := n1_; have HB := n2_; clear n0_ n1_ n2_; (try clear hb); (try clear hb2); (try clear hk); (try clear hi); (try clear ho0); (try clear ho1); obtain ⟨Ao11, co11, eo11⟩ := Kd.R_slice HO339.out; subst eo11; have p342 : 0 ≤ (0 : Int) := (by omega); have q342 : 0 < (t336.length : Int) := OD; obtain ⟨ad342, e342, hx342_0⟩ := Kd.at_int (Kd.R_reads' HO339.out).2.2 0 p342 q342; cases e342; have qi342 : (0 < t336.length) = True := eq_true (by omega); (try rw [show ((0 : Int)).toNat = 0 from rfl] at hx342_0); (try rw [Addr.add_zero'] at hx342_0); replace p342 := eq_true p342; replace q342 := eq_true q342; have p343 : 0 ≤ (0 : Int) := (by omega); have q343 : 0 < (t336.length : Int) := OD; obtain ⟨ad343, e343, hx343_0⟩ := Kd.at_int (Kd.R_reads' HO339.out).2.2 0 p343 q343; obtain rfl : ad342 = ad343 := (by injection e343); have qi343 : (0 < t336.length) = True := eq_true (by omega); (try rw [show ((0 : Int)).toNat = 0 from rfl] at hx343_0); (try rw [Addr.add_zero'] at hx343_0); replace p343 := eq_true p343; replace q343 := eq_true q343))
    go_ret2
    exact ⟨Zb, BS HB.out⟩
  ·rw [if_neg c6] at H
   exact absurd H (by simp)
 ·replace c4 := Bool.eq_false_iff.mpr c4
  subst c4
  have H1 : (some (0, false)) = some (r1, r2) := by rw [if_neg (show ¬ (false = true) by decide)] at H; exact H
  clear H
  have H := H1
  clear H1
  simp only [Option.some.injEq, Prod.mk.injEq] at H
  obtain ⟨rfl, rfl⟩ := H
  go_enter Try.func33, Try.ntmps33
  go_wp2_with (first | ((with_reducible refine gate_callee (f := 57) rfl ?_); refine goesL_ (some 10) rfl rfl Try.func57 (by kernel_rfl) rfl #[.slice A0 l0.length c0, .int .i64 a1] rfl Zc ?_; (with_reducible refine (impl_canWear.calls k _ _ l0 a1 false _ ?side1 ?side2 A3.out).mono ?_); (case side1 => exact CS HR0.out); (case side2 => exact HC0.out); rintro e w' ⟨rfl, ⟨nd, rfl⟩⟩; refine ⟨_, rfl, ?_⟩))
  go_ret2
  exact ⟨Zb, BS HB.out⟩

/-! ### spec_CountWearClimbs: function 34 -/
def spec_CountWearClimbs.f (k : Nat) (l0 : List Int) (a1 : Int) : Option (Int × Bool) := (spec_weReach.f k l0 a1).bind fun t344 => (if t344 = true then ((spec_weWays.f k l0 a1).bind fun t345 => (if 0 < (t345.length : Int) then (if (rd t345 0) > 1000000000000 then (some (0, false)) else (some (rd t345 0, true))) else (none))) else (some (0, false)))
set_option maxHeartbeats 8000000 in
set_option maxRecDepth 100000 in
theorem spec_CountWearClimbs.calls (k : Nat) (A0 : Option Addr) (c0 : Nat) (l0 : List Int) (a1 : Int) (r1 : Int) (r2 : Bool) (w : World) (hr0 : Kd.C (Kd.int .i64) w A0 l0.length l0) (hc0 : l0.length ≤ c0) (h : spec_CountWearClimbs.f k l0 a1 = some (r1, r2)) :
  Calls Try.prog 34 #[.slice A0 l0.length c0, .int .i64 a1] w fun e w' => e = .returned (.tuple #[.int .i64 r1, .bool r2]) ∧ Below w.heap.size w w' := by
 have HR0 := Aside0.mk hr0
 have HC0 := Aside0.mk hc0
 clear hr0 hc0
 have HB := Aside0.mk (Below.refl w.heap.size w)
 have H : ((spec_weReach.f k l0 a1).bind fun t344 => (if t344 = true then ((spec_weWays.f k l0 a1).bind fun t345 => (if 0 < (t345.length : Int) then (if (rd t345 0) > 1000000000000 then (some (0, false)) else (some (rd t345 0, true))) else (none))) else (some (0, false)))) = some (r1, r2) := h
 clear h
 replace H := Option.bind_eq_some_iff.mp H
 obtain ⟨t344, A30, H⟩ := H
 try dsimp only at H
 have A3 := Aside0.mk A30
 clear A30
 by_cases c4 : t344 = true
 ·subst c4
  have H1 : ((spec_weWays.f k l0 a1).bind fun t345 => (if 0 < (t345.length : Int) then (if (rd t345 0) > 1000000000000 then (some (0, false)) else (some (rd t345 0, true))) else (none))) = some (r1, r2) := by rw [if_pos rfl] at H; exact H
  clear H
  have H := H1
  clear H1
  replace H := Option.bind_eq_some_iff.mp H
  obtain ⟨t345, A50, H⟩ := H
  try dsimp only at H
  have A5 := Aside0.mk A50
  clear A50
  by_cases c6 : 0 < (t345.length : Int)
  ·rw [if_pos c6] at H
   have c6b0 : decide (0 < (t345.length : Int)) = true := decide_eq_true c6
   have c6b1 : decide (0 < t345.length) = true := decide_eq_true (by omega)
   clear c6
   by_cases c7 : (rd t345 0) > 1000000000000
   ·rw [if_pos c7] at H
    have c7b0 : decide (1000000000000 < (rd t345 0)) = true := decide_eq_true c7
    clear c7
    simp only [Option.some.injEq, Prod.mk.injEq] at H
    obtain ⟨rfl, rfl⟩ := H
    go_enter Try.func34, Try.ntmps34
    go_wp2_with (first | ((with_reducible refine gate_callee (f := 59) rfl ?_); refine goesL_ (some 9) rfl rfl Try.func59 (by kernel_rfl) rfl #[.slice A0 l0.length c0, .int .i64 a1] rfl Zc ?_; (with_reducible refine (spec_weReach.calls k _ _ l0 a1 true _ ?side1 ?side2 A3.out).mono ?_); (case side1 => exact CS HR0.out); (case side2 => exact HC0.out); rintro e w' ⟨rfl, ⟨nd, rfl⟩⟩; refine ⟨_, rfl, ?_⟩) | ((with_reducible refine gate_callee (f := 60) rfl ?_); refine goesL_ (some 13) rfl rfl Try.func60 (by kernel_rfl) rfl #[.slice A0 l0.length c0, .int .i64 a1] rfl Zc ?_; (with_reducible refine (spec_weWays.calls k _ _ l0 a1 t345 _ ?side1 ?side2 A5.out).mono ?_); (case side1 => exact CS HR0.out); (case side2 => exact HC0.out); rintro e w8 ⟨v346, rfl, ho0, hb⟩; refine ⟨_, rfl, ?_⟩; have n0_ := Aside0.mk (Kd.R_lower ho0 (below_size (BS HB.out))); have n1_ := Aside0.mk (below_step (BS HB.out) hb); clear HB; have HO347 := n0_; have HB := n1_; clear n0_ n1_; (try clear hb); (try clear hb2); (try clear hk); (try clear hi); (try clear ho0); obtain ⟨Ao9, co9, eo9⟩ := Kd.R_slice HO347.out; subst eo9; have p348 : 0 ≤ (0 : Int) := (by omega); have q348 : 0 < (t345.length : Int) := OD; obtain ⟨ad348, e348, hx348_0⟩ := Kd.at_int (Kd.R_reads' HO347.out).2.2 0 p348 q348; cases e348; have qi348 : (0 < t345.length) = True := eq_true (by omega); (try rw [show ((0 : Int)).toNat = 0 from rfl] at hx348_0); (try rw [Addr.add_zero'] at hx348_0); replace p348 := eq_true p348; replace q348 := eq_true q348))
    go_ret2
    exact ⟨Zb, BS HB.out⟩
   ·rw [if_neg c7] at H
    have c7b0 : decide (1000000000000 < (rd t345 0)) = false := decide_eq_false c7
    clear c7
    simp only [Option.some.injEq, Prod.mk.injEq] at H
    obtain ⟨rfl, rfl⟩ := H
    go_enter Try.func34, Try.ntmps34
    go_wp2_with (first | ((with_reducible refine gate_callee (f := 59) rfl ?_); refine goesL_ (some 9) rfl rfl Try.func59 (by kernel_rfl) rfl #[.slice A0 l0.length c0, .int .i64 a1] rfl Zc ?_; (with_reducible refine (spec_weReach.calls k _ _ l0 a1 true _ ?side1 ?side2 A3.out).mono ?_); (case side1 => exact CS HR0.out); (case side2 => exact HC0.out); rintro e w' ⟨rfl, ⟨nd, rfl⟩⟩; refine ⟨_, rfl, ?_⟩) | ((with_reducible refine gate_callee (f := 60) rfl ?_); refine goesL_ (some 13) rfl rfl Try.func60 (by kernel_rfl) rfl #[.slice A0 l0.length c0, .int .i64 a1] rfl Zc ?_; (with_reducible refine (spec_weWays.calls k _ _ l0 a1 t345 _ ?side1 ?side2 A5.out).mono ?_); (case side1 => exact CS HR0.out); (case side2 => exact HC0.out); rintro e w10 ⟨v346, rfl, ho0, hb⟩; refine ⟨_, rfl, ?_⟩; have n0_ := Aside0.mk (Kd.R_lower ho0 (below_size (BS HB.out))); have n1_ := Aside0.mk (below_step (BS HB.out) hb); clear HB; have HO347 := n0_; have HB := n1_; clear n0_ n1_; (try clear hb); (try clear hb2); (try clear hk); (try clear hi); (try clear ho0); obtain ⟨Ao11, co11, eo11⟩ := Kd.R_slice HO347.out; subst eo11; have p348 : 0 ≤ (0 : Int) := (by omega); have q348 : 0 < (t345.length : Int) := OD; obtain ⟨ad348, e348, hx348_0⟩ := Kd.at_int (Kd.R_reads' HO347.out).2.2 0 p348 q348; cases e348; have qi348 : (0 < t345.length) = True := eq_true (by omega); (try rw [show ((0 : Int)).toNat = 0 from rfl] at hx348_0); (try rw [Addr.add_zero'] at hx348_0); replace p348 := eq_true p348; replace q348 := eq_true q348))
    go_ret2
    exact ⟨Zb, BS HB.out⟩
  ·rw [if_neg c6] at H
   exact absurd H (by simp)
 ·replace c4 := Bool.eq_false_iff.mpr c4
  subst c4
  have H1 : (some (0, false)) = some (r1, r2) := by rw [if_neg (show ¬ (false = true) by decide)] at H; exact H
  clear H
  have H := H1
  clear H1
  simp only [Option.some.injEq, Prod.mk.injEq] at H
  obtain ⟨rfl, rfl⟩ := H
  go_enter Try.func34, Try.ntmps34
  go_wp2_with (first | ((with_reducible refine gate_callee (f := 59) rfl ?_); refine goesL_ (some 9) rfl rfl Try.func59 (by kernel_rfl) rfl #[.slice A0 l0.length c0, .int .i64 a1] rfl Zc ?_; (with_reducible refine (spec_weReach.calls k _ _ l0 a1 false _ ?side1 ?side2 A3.out).mono ?_); (case side1 => exact CS HR0.out); (case side2 => exact HC0.out); rintro e w' ⟨rfl, ⟨nd, rfl⟩⟩; refine ⟨_, rfl, ?_⟩))
  go_ret2
  exact ⟨Zb, BS HB.out⟩

end Go.Proofs.Ytbeokaghdagabaa.PFnStepsMendedOfAll
