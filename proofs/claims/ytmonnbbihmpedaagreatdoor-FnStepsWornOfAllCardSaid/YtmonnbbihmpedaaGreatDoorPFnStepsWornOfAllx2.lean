-- Written by wip/gen/mp.py of this repo (the kit's printer with our own parts): functions and their contracts.
import Derived.Test.YtmonnbbihmpedaaGreatDoorPFnStepsWornOfAllx0
import Derived.Test.YtmonnbbihmpedaaGreatDoorPFnStepsWornOfAllx1
namespace Go.Proofs.YtmonnbbihmpedaaGreatDoor.PFnStepsWornOfAll
open Go.RowKit Go.Proofs.YtmonnbbihmpedaaGreatDoorW.PrintWords Go.Proofs.YtmonnbbihmpedaaGreatDoorW.PrintLast Go.Proofs.YtmonnbbihmpedaaGreatDoorW.PrintMore
attribute [local go_sem] max2_int min2_int max_two min_two max_three min_three max_four min_four   -- for this text's walks alone
set_option linter.unusedVariables false
set_option linter.unusedSimpArgs false

/-! ### impl_WearAll: function 19 -/
mutual
def impl_WearAll.j0 : Nat → List Int → Int → List (List Int) → Bool → Option (List Int × Bool)
 | 0, _, _, _, _ => none
 | k + 1, x0, x1, x2, x21 => if x21 = true then (some (([] : List Int), false)) else ((slices_Clone_int_int.f x0).bind fun t119 => (impl_WearAll.l0 k x1 t119 x2 (x2.length : Int) 0))
def impl_WearAll.l0 : Nat → Int → List Int → List (List Int) → Int → Int → Option (List Int × Bool)
 | 0, _, _, _, _, _ => none
 | k + 1, x1, x8, x24, x25, x26 => if x26 < x25 then (if 0 ≤ x26 then (if x26 < (x24.length : Int) then ((impl_isWearClimb.f k x8 x1 (rd_L1 x24 x26)).bind fun t123 => (if t123 = true then (impl_WearAll.l1 k x1 x8 x24 x25 x26 (rd_L1 x24 x26) ((rd_L1 x24 x26).length : Int) 0) else (some (([] : List Int), false)))) else (none)) else (none)) else (some (x8, true))
def impl_WearAll.l1 : Nat → Int → List Int → List (List Int) → Int → Int → List Int → Int → Int → Option (List Int × Bool)
 | 0, _, _, _, _, _, _, _, _ => none
 | k + 1, x1, x8, x24, x25, x26, x35, x36, x37 => if x37 < x36 then (if 0 ≤ x37 then (if x37 < (x35.length : Int) then (if 0 ≤ (wrap64 ((rd x35 x37) - 1)) then (if (wrap64 ((rd x35 x37) - 1)) < (x8.length : Int) then (impl_WearAll.l1 k x1 (x8.set ((wrap64 ((rd x35 x37) - 1)) : Int).toNat (wrap64 ((rd x8 (wrap64 ((rd x35 x37) - 1))) - 1))) x24 x25 x26 x35 x36 (wrap64 (x37 + 1))) else (none)) else (none)) else (none)) else (none)) else (impl_WearAll.l0 k x1 x8 x24 x25 (wrap64 (x26 + 1)))
end
def impl_WearAll.f (k : Nat) (l0 : List Int) (a1 : Int) (l2 : List (List Int)) : Option (List Int × Bool) := (impl_canWear.f k l0 a1).bind fun t118 => (if t118 = true then (impl_WearAll.j0 k l0 a1 l2 (decide ((l2.length : Int) > 100))) else (impl_WearAll.j0 k l0 a1 l2 true))
set_option maxHeartbeats 8000000 in
set_option maxRecDepth 100000 in
theorem impl_WearAll.calls (k : Nat) (A0 : Option Addr) (c0 : Nat) (l0 : List Int) (a1 : Int) (A2 : Option Addr) (c2 : Nat) (l2 : List (List Int)) (r1 : List Int) (r2 : Bool) (w : World) (hr0 : Kd.C (Kd.int .i64) w A0 l0.length l0) (hc0 : l0.length ≤ c0) (hr2 : Kd.C (Kd.slice 3 (Kd.int .i64)) w A2 l2.length l2) (hc2 : l2.length ≤ c2) (h : impl_WearAll.f k l0 a1 l2 = some (r1, r2)) :
  Calls Tryz.prog 19 #[.slice A0 l0.length c0, .int .i64 a1, .slice A2 l2.length c2] w fun e w' => ∃ v0_ : Value, e = .returned (.tuple #[v0_, .bool r2]) ∧ Kd.R (Kd.int .i64) 3 w' w.heap.size (fun _ => True) v0_ r1 ∧ Below w.heap.size w w' := by
 have HR0 := Aside0.mk hr0
 have HC0 := Aside0.mk hc0
 clear hr0 hc0
 have HR2 := Aside0.mk hr2
 have HC2 := Aside0.mk hc2
 clear hr2 hc2
 have HB := Aside0.mk (Below.refl w.heap.size w)
 have H : ((impl_canWear.f k l0 a1).bind fun t118 => (if t118 = true then (impl_WearAll.j0 k l0 a1 l2 (decide ((l2.length : Int) > 100))) else (impl_WearAll.j0 k l0 a1 l2 true))) = some (r1, r2) := h
 clear h
 have HC4 := Aside0.mk H
 clear H
 go_enter Tryz.func19, Tryz.ntmps19
 go_upto_region 1 with (fail)
 go_cut [21] from 21 to 21 (fun v21 wc => ∃ (kq : Nat) (x21_3 : Bool), v21 = .bool x21_3 ∧ Aside0 (impl_WearAll.j0 kq l0 a1 l2 x21_3 = some (r1, r2)) ∧ Aside0 (kq ≤ k) ∧ Aside0 (Below w.heap.size w wc))
 case first =>
  have H := HC4.out
  clear HC4
  replace H := Option.bind_eq_some_iff.mp H
  obtain ⟨t118, A50, H⟩ := H
  try dsimp only at H
  have A5 := Aside0.mk A50
  clear A50
  by_cases c6 : t118 = true
  ·subst c6
   have H1 : (impl_WearAll.j0 k l0 a1 l2 (decide ((l2.length : Int) > 100))) = some (r1, r2) := by rw [if_pos rfl] at H; exact H
   clear H
   have H := H1
   clear H1
   have H' := Aside0.mk H
   clear H
   go_wp2_with (first | ((with_reducible refine gate_callee (f := 35) rfl ?_); refine goesL_ (some 15) rfl rfl Tryz.func35 (by kernel_rfl) rfl #[.slice A0 l0.length c0, .int .i64 a1] rfl Zc ?_; (with_reducible refine (impl_canWear.calls k _ _ l0 a1 true _ ?side1 ?side2 A5.out).mono ?_); (case side1 => exact CS (Kd.C_below HR0.out HB.out)); (case side2 => exact HC0.out); rintro e w' ⟨rfl, ⟨nd, rfl⟩⟩; refine ⟨_, rfl, ?_⟩))
   go_meet
   case rel => exact ⟨_, (decide ((l2.length : Int) > 100)), Za, H', ⟨by first | omega | exact Nat.le_refl _⟩, ⟨BS HB.out⟩⟩
  ·replace c6 := Bool.eq_false_iff.mpr c6
   subst c6
   have H1 : (impl_WearAll.j0 k l0 a1 l2 true) = some (r1, r2) := by rw [if_neg (show ¬ (false = true) by decide)] at H; exact H
   clear H
   have H := H1
   clear H1
   have H' := Aside0.mk H
   clear H
   go_wp2_with (first | ((with_reducible refine gate_callee (f := 35) rfl ?_); refine goesL_ (some 15) rfl rfl Tryz.func35 (by kernel_rfl) rfl #[.slice A0 l0.length c0, .int .i64 a1] rfl Zc ?_; (with_reducible refine (impl_canWear.calls k _ _ l0 a1 false _ ?side1 ?side2 A5.out).mono ?_); (case side1 => exact CS (Kd.C_below HR0.out HB.out)); (case side2 => exact HC0.out); rintro e w' ⟨rfl, ⟨nd, rfl⟩⟩; refine ⟨_, rfl, ?_⟩))
   go_meet
   case rel => exact ⟨_, (true), Za, H', ⟨by first | omega | exact Nat.le_refl _⟩, ⟨BS HB.out⟩⟩
 case rest =>
  clear HC4
  (try clear c1); (try clear c2); (try clear p2); (try clear c3); (try clear c6)
  obtain ⟨kq, x21_3, rfl, HA, HJ3, HB⟩ := hcut
  cases kq with
  | zero => exact absurd HA.out (by simp [impl_WearAll.j0])
  | succ kj3 =>
   have H := HA.out
   clear HA
   simp only [impl_WearAll.j0] at H
   by_cases c7 : x21_3 = true
   ·subst c7
    have H1 : (some (([] : List Int), false)) = some (r1, r2) := by rw [if_pos rfl] at H; exact H
    clear H
    have H := H1
    clear H1
    simp only [Option.some.injEq, Prod.mk.injEq] at H
    obtain ⟨rfl, rfl⟩ := H
    go_wp2
    go_ret2
    exact ⟨_, Zb, by first | exact Kd.R_nil _ _ _ _ _ | exact Kd.N_nil _ _ _ _ _ | exact Kd.V_nil _ _ _ _ _ | exact Kd.Q_nil _ _ _ _ _ | exact Kd.S_nil _ _ _ _ _, BS HB.out⟩
   ·replace c7 := Bool.eq_false_iff.mpr c7
    subst c7
    have H1 : ((slices_Clone_int_int.f l0).bind fun t119 => (impl_WearAll.l0 kj3 a1 t119 l2 (l2.length : Int) 0)) = some (r1, r2) := by rw [if_neg (show ¬ (false = true) by decide)] at H; exact H
    clear H
    have H := H1
    clear H1
    replace H := Option.bind_eq_some_iff.mp H
    obtain ⟨t119, A80, H⟩ := H
    try dsimp only at H
    have A8 := Aside0.mk A80
    clear A80
    have H' := Aside0.mk H
    clear H
    go_wp2_with (first | ((with_reducible refine gate_callee (f := 48) rfl ?_); refine goesL_ (some 23) rfl rfl Tryz.func48 (by kernel_rfl) rfl #[.slice A0 l0.length c0] rfl Zc ?_; (with_reducible refine (slices_Clone_int_int.calls _ _ l0 t119 _ ?side1 ?side2 A8.out).mono ?_); (case side1 => exact CS (Kd.C_below HR0.out HB.out)); (case side2 => exact HC0.out); rintro e w9 ⟨v120, rfl, ho0, hb⟩; refine ⟨_, rfl, ?_⟩; have n0_ := Aside0.mk (Kd.R_lower ho0 (below_size (BS HB.out))); have n1_ := Aside0.mk (below_step (BS HB.out) hb); clear HB; have HO121 := n0_; have HB := n1_; clear n0_ n1_; (try clear hb); (try clear hb2); (try clear hk); (try clear hi); (try clear ho0)))
    go_loopg [26] kj3 (fun kq v26 w' => ∃ (x8_2 : List Int) (x26_2 : Int), v26 = .int .i64 x26_2 ∧ Aside0 (impl_WearAll.l0 kq a1 x8_2 l2 (l2.length : Int) x26_2 = some (r1, r2)) ∧ Aside0 (kq ≤ kj3) ∧ Aside0 (Kd.R (Kd.int .i64) 3 w' w.heap.size (fun _ => True) v120 x8_2) ∧ Aside0 (Below w.heap.size w w'))
    case atStart => exact ⟨(t119), (0), Za, H', ⟨Nat.le_refl _⟩, ⟨RS HO121.out⟩, ⟨BS HB.out⟩⟩
    case round =>
     clear H'
     (try clear c4); (try clear c7)
     obtain ⟨x8_2, x26_2, rfl, HA, HK2, HO_8, HB⟩ := hrel
     cases gk with
     | zero => exact absurd HA.out (by simp [impl_WearAll.l0])
     | succ k2 =>
      have H := HA.out
      clear HA
      simp only [impl_WearAll.l0] at H
      by_cases c10 : x26_2 < (l2.length : Int)
      ·rw [if_pos c10] at H
       have c10b0 : decide (x26_2 < (l2.length : Int)) = true := decide_eq_true c10
       clear c10
       by_cases c11 : 0 ≤ x26_2
       ·rw [if_pos c11] at H
        have c11b0 : decide (0 ≤ x26_2) = true := decide_eq_true c11
        clear c11
        by_cases c12 : x26_2 < (l2.length : Int)
        ·rw [if_pos c12] at H
         have c12b0 : decide (x26_2 < (l2.length : Int)) = true := decide_eq_true c12
         clear c12
         replace H := Option.bind_eq_some_iff.mp H
         obtain ⟨t123, A130, H⟩ := H
         try dsimp only at H
         have A13 := Aside0.mk A130
         clear A130
         by_cases c14 : t123 = true
         ·subst c14
          have H1 : (impl_WearAll.l1 k2 a1 x8_2 l2 (l2.length : Int) x26_2 (rd_L1 l2 x26_2) ((rd_L1 l2 x26_2).length : Int) 0) = some (r1, r2) := by rw [if_pos rfl] at H; exact H
          clear H
          have H := H1
          clear H1
          have H' := Aside0.mk H
          clear H
          have p122 : 0 ≤ (x26_2 : Int) := OD
          have q122 : x26_2 < (l2.length : Int) := OD
          obtain ⟨ad122, A122_0, c122_0, e122, hx122_0, hl122_0, hi122_0⟩ := at_L1 HR2.out x26_2 p122 q122
          cases e122
          replace hx122_0 := (HB.out.cell (World.block_lt_of_cell? w _ hx122_0)).trans hx122_0
          have HR122_0 := Aside0.mk hi122_0
          have HC122_0 := Aside0.mk hl122_0
          clear hi122_0 hl122_0
          replace p122 := eq_true p122
          replace q122 := eq_true q122
          obtain ⟨Ao15, co15, eo15⟩ := Kd.R_slice HO_8.out
          subst eo15
          go_wp2_with (first | ((with_reducible refine gate_callee (f := 36) rfl ?_); refine goesL_ (some 33) rfl rfl Tryz.func36 (by kernel_rfl) rfl #[.slice Ao15 x8_2.length co15, .int .i64 a1, .slice A122_0 (rd_L1 l2 x26_2).length c122_0] rfl Zc ?_; (with_reducible refine (impl_isWearClimb.calls k2 _ _ x8_2 a1 _ _ (rd_L1 l2 x26_2) true _ ?side1 ?side2 ?side3 ?side4 A13.out).mono ?_); (case side1 => exact CS (Kd.R_reads' HO_8.out).2.2); (case side2 => exact (Kd.R_reads' HO_8.out).2.1); (case side3 => exact CS (Kd.C_below HR122_0.out HB.out)); (case side4 => exact HC122_0.out); rintro e w' ⟨rfl, ⟨nd, rfl⟩⟩; refine ⟨_, rfl, ?_⟩))
          go_loopg [37] k2 (fun kq v37 w' => ∃ (x8_3 : List Int) (x37_3 : Int), v37 = .int .i64 x37_3 ∧ Aside0 (impl_WearAll.l1 kq a1 x8_3 l2 (l2.length : Int) x26_2 (rd_L1 l2 x26_2) ((rd_L1 l2 x26_2).length : Int) x37_3 = some (r1, r2)) ∧ Aside0 (kq ≤ k2) ∧ Aside0 (Kd.R (Kd.int .i64) 3 w' w.heap.size (fun _ => True) (.slice Ao15 x8_2.length co15) x8_3) ∧ Aside0 (Below w.heap.size w w'))
          case atStart => exact ⟨(x8_2), (0), Za, H', ⟨Nat.le_refl _⟩, ⟨RS HO_8.out⟩, ⟨BS HB.out⟩⟩
          case round =>
           clear H'
           (try clear p1); (try clear q1); (try clear hx1); (try clear c10); (try clear c10b0); (try clear c11); (try clear c11b0); (try clear c12); (try clear c12b0); (try clear p12); (try clear q12); (try clear hx12); (try clear c14); (try clear hx122_0); (try clear p122); (try clear q122)
           obtain ⟨x8_3, x37_3, rfl, HA, HK3, HO_8, HB⟩ := hrel
           have hl8_3 := (Kd.R_reads' HO_8.out).1
           rw [hl8_3] at HO_8
           (try simp only [hl8_3])
           cases gk with
           | zero => exact absurd HA.out (by simp [impl_WearAll.l1])
           | succ k3 =>
            have H := HA.out
            clear HA
            simp only [impl_WearAll.l1] at H
            by_cases c16 : x37_3 < ((rd_L1 l2 x26_2).length : Int)
            ·rw [if_pos c16] at H
             have c16b0 : decide (x37_3 < ((rd_L1 l2 x26_2).length : Int)) = true := decide_eq_true c16
             clear c16
             by_cases c17 : 0 ≤ x37_3
             ·rw [if_pos c17] at H
              have c17b0 : decide (0 ≤ x37_3) = true := decide_eq_true c17
              clear c17
              by_cases c18 : x37_3 < ((rd_L1 l2 x26_2).length : Int)
              ·rw [if_pos c18] at H
               have c18b0 : decide (x37_3 < ((rd_L1 l2 x26_2).length : Int)) = true := decide_eq_true c18
               clear c18
               obtain ⟨ji19, hji19⟩ : ∃ j_ : Int, (wrap64 ((rd (rd_L1 l2 x26_2) x37_3) - 1)) = j_ := ⟨_, rfl⟩
               replace H : (if 0 ≤ (ji19) then (if (ji19) < (x8_3.length : Int) then (impl_WearAll.l1 k3 a1 (x8_3.set ((ji19) : Int).toNat (wrap64 ((rd x8_3 (ji19)) - 1))) l2 (l2.length : Int) x26_2 (rd_L1 l2 x26_2) ((rd_L1 l2 x26_2).length : Int) (wrap64 (x37_3 + 1))) else (none)) else (none)) = some (r1, r2) := by first | (rw [hji19] at H; exact H) | (simp only [hji19] at H ⊢; exact H)
               have hji19w : (IntKind.i64.wrap ((rd (rd_L1 l2 x26_2) x37_3) - 1)) = ji19 := (i64_w _).trans hji19
               by_cases c20 : 0 ≤ (ji19)
               ·rw [if_pos c20] at H
                have c20b0 : decide (0 ≤ (ji19)) = true := decide_eq_true c20
                clear c20
                by_cases c21 : (ji19) < (x8_3.length : Int)
                ·rw [if_pos c21] at H
                 have c21b0 : decide ((ji19) < (x8_3.length : Int)) = true := decide_eq_true c21
                 clear c21
                 obtain ⟨y126, hy126⟩ : ∃ y_ : List Int, y_ = (x8_3.set ((ji19) : Int).toNat (wrap64 ((rd x8_3 (ji19)) - 1))) := ⟨_, rfl⟩
                 replace H : (impl_WearAll.l1 k3 a1 y126 l2 (l2.length : Int) x26_2 (rd_L1 l2 x26_2) ((rd_L1 l2 x26_2).length : Int) (wrap64 (x37_3 + 1))) = some (r1, r2) := by first | (rw [hy126]; with_reducible exact H) | (have H2_ := (Option.bind_some _ _).symm.trans H; rw [hy126]; with_reducible exact H2_) | (have H2_ := (Option.bind_some _ _).symm.trans H; with_reducible exact H2_) | with_reducible exact H | (rw [hy126]; exact H) | exact H
                 have Ny126 := Aside0.mk hy126
                 clear hy126
                 have H' := Aside0.mk H
                 clear H
                 have p124 : 0 ≤ (x37_3 : Int) := OD
                 have q124 : x37_3 < ((rd_L1 l2 x26_2).length : Int) := OD
                 obtain ⟨ad124, e124, hx124_0⟩ := Kd.at_int HR122_0.out x37_3 p124 q124
                 cases e124
                 replace hx124_0 := (HB.out.cell (World.block_lt_of_cell? w _ hx124_0)).trans hx124_0
                 replace p124 := eq_true p124
                 replace q124 := eq_true q124
                 have p125 : 0 ≤ ((ji19) : Int) := OD
                 have q125 : (ji19) < (x8_3.length : Int) := OD
                 obtain ⟨ad125, e125, hx125_0⟩ := Kd.at_int (Kd.R_reads' HO_8.out).2.2 (ji19) p125 q125
                 cases e125
                 replace p125 := eq_true p125
                 replace q125 := eq_true q125
                 have p22 : 0 ≤ ((ji19) : Int) := OD
                 have q22 : ((ji19) : Int) < ((x8_3.length : Int) : Int) := OD
                 obtain ⟨go22, co22, eo22, gb22, gl22, cl22, HG22⟩ := Kd.R_form HO_8.out (by omega)
                 (first | cases eo22 | (injection eo22 with ea_ en_ ec_; (first | subst ea_ | (injection ea_ with ea_; subst ea_)); subst ec_; clear en_))
                 have GB22 := Aside0.mk gb22
                 have GG22 := Aside0.mk HG22
                 clear gb22 gl22 HG22
                 (first | simp only [add_plain] at hx125_0 | skip)
                 obtain ⟨hx22_0, hf22_0⟩ := Kd.R_celln 0 HO_8.out ((ji19) : Int) p22 q22
                 replace p22 := eq_true p22
                 replace q22 := eq_true q22
                 have HP23 := Kd.R_putg HO_8.out ((ji19) : Int) (wrap64 ((rd x8_3 (ji19)) - 1))
                 go_wp2_with (first | ((with_reducible refine gate_store (t := 3) (p := 47) rfl ?_); refine store_event (t := 3) (p := 47) (v := ?vo_w24) (w1 := (wr.setCell ⟨go22, ((ji19) : Int).toNat, none⟩ (.int .i64 (wrap64 ((rd x8_3 (ji19)) - 1))))) ?hg ?ho ?hn ?hr ?_; (case ho => rfl); (case hg => rfl); (case hn => rfl); (case hr => first | (go_simp; done) | (go_simp; rfl)); intro w24 hw; have hg : wr.grownBy w24 (some go22) := (by rw [hw]; exact HP23.2); have hp_ : Kd.R (Kd.int .i64) 3 w24 w.heap.size (fun _ => True) (.slice (some ⟨go22, 0, none⟩) x8_3.length co15) y126 := (by rw [hw, Ny126.out]; exact HP23.1); clear HP23; have n0_ := Aside0.mk (hp_); have n1_ := Aside0.mk ((by rw [hw]; exact below_set (HB.out) GB22.out : Below w.heap.size w w24)); clear HO_8; clear HB; have HO_8 := n0_; have HB := n1_; clear n0_ n1_; clear hg hw hp_))
                 (try simp only [← hl8_3])
                 go_roundg k3
                 case measure => have := HJ3.out; have := HK2.out; have := HK3.out; omega
                 case rel => exact ⟨(y126), (wrap64 (x37_3 + 1)), Za, H', ⟨by have := HJ3.out; have := HK2.out; have := HK3.out; omega⟩, ⟨by (try simp only [hl8_3]); (with_reducible repeat (first | apply Kd.R_alloc | apply Kd.R_drewN | apply Kd.R_drew)); exact HO_8.out⟩, ⟨BS HB.out⟩⟩
                ·rw [if_neg c21] at H
                 exact absurd H (by simp)
               ·rw [if_neg c20] at H
                exact absurd H (by simp)
              ·rw [if_neg c18] at H
               exact absurd H (by simp)
             ·rw [if_neg c17] at H
              exact absurd H (by simp)
            ·rw [if_neg c16] at H
             have c16b0 : decide (x37_3 < ((rd_L1 l2 x26_2).length : Int)) = false := decide_eq_false c16
             clear c16
             have H' := Aside0.mk H
             clear H
             go_wp2
             (try simp only [← hl8_3])
             go_roundg k3
             case measure => have := HJ3.out; have := HK2.out; have := HK3.out; omega
             case rel => exact ⟨(x8_3), (wrap64 (x26_2 + 1)), Za, H', ⟨by have := HJ3.out; have := HK2.out; have := HK3.out; omega⟩, ⟨by (try simp only [hl8_3]); (with_reducible repeat (first | apply Kd.R_alloc | apply Kd.R_drewN | apply Kd.R_drew)); exact HO_8.out⟩, ⟨BS HB.out⟩⟩
         ·replace c14 := Bool.eq_false_iff.mpr c14
          subst c14
          have H1 : (some (([] : List Int), false)) = some (r1, r2) := by rw [if_neg (show ¬ (false = true) by decide)] at H; exact H
          clear H
          have H := H1
          clear H1
          simp only [Option.some.injEq, Prod.mk.injEq] at H
          obtain ⟨rfl, rfl⟩ := H
          have p122 : 0 ≤ (x26_2 : Int) := OD
          have q122 : x26_2 < (l2.length : Int) := OD
          obtain ⟨ad122, A122_0, c122_0, e122, hx122_0, hl122_0, hi122_0⟩ := at_L1 HR2.out x26_2 p122 q122
          cases e122
          replace hx122_0 := (HB.out.cell (World.block_lt_of_cell? w _ hx122_0)).trans hx122_0
          have HR122_0 := Aside0.mk hi122_0
          have HC122_0 := Aside0.mk hl122_0
          clear hi122_0 hl122_0
          replace p122 := eq_true p122
          replace q122 := eq_true q122
          obtain ⟨Ao25, co25, eo25⟩ := Kd.R_slice HO_8.out
          subst eo25
          go_wp2_with (first | ((with_reducible refine gate_callee (f := 36) rfl ?_); refine goesL_ (some 33) rfl rfl Tryz.func36 (by kernel_rfl) rfl #[.slice Ao25 x8_2.length co25, .int .i64 a1, .slice A122_0 (rd_L1 l2 x26_2).length c122_0] rfl Zc ?_; (with_reducible refine (impl_isWearClimb.calls k2 _ _ x8_2 a1 _ _ (rd_L1 l2 x26_2) false _ ?side1 ?side2 ?side3 ?side4 A13.out).mono ?_); (case side1 => exact CS (Kd.R_reads' HO_8.out).2.2); (case side2 => exact (Kd.R_reads' HO_8.out).2.1); (case side3 => exact CS (Kd.C_below HR122_0.out HB.out)); (case side4 => exact HC122_0.out); rintro e w' ⟨rfl, ⟨nd, rfl⟩⟩; refine ⟨_, rfl, ?_⟩))
          go_ret2
          exact ⟨_, Zb, by first | exact Kd.R_nil _ _ _ _ _ | exact Kd.N_nil _ _ _ _ _ | exact Kd.V_nil _ _ _ _ _ | exact Kd.Q_nil _ _ _ _ _ | exact Kd.S_nil _ _ _ _ _, BS HB.out⟩
        ·rw [if_neg c12] at H
         exact absurd H (by simp)
       ·rw [if_neg c11] at H
        exact absurd H (by simp)
      ·rw [if_neg c10] at H
       have c10b0 : decide (x26_2 < (l2.length : Int)) = false := decide_eq_false c10
       clear c10
       simp only [Option.some.injEq, Prod.mk.injEq] at H
       obtain ⟨rfl, rfl⟩ := H
       go_wp2
       go_ret2
       exact ⟨_, Zb, RS HO_8.out, BS HB.out⟩

/-! ### impl_WearBy: function 4 -/
def impl_WearBy.f (k : Nat) (l0 : List Int) (a1 : Int) (l2 : List Int) : Option (List Int × Bool) := (impl_WearAll.f k l0 a1 (([l2] : List (List Int)))).bind fun bt130 => (some (bt130.1, bt130.2))
set_option maxHeartbeats 8000000 in
set_option maxRecDepth 100000 in
theorem impl_WearBy.calls (k : Nat) (A0 : Option Addr) (c0 : Nat) (l0 : List Int) (a1 : Int) (P2_ : Nat → Prop) (A2 : Option Addr) (c2 : Nat) (l2 : List Int) (r1 : List Int) (r2 : Bool) (w : World) (hr0 : Kd.C (Kd.int .i64) w A0 l0.length l0) (hc0 : l0.length ≤ c0) (hs2 : Kd.V (Kd.int .i64) 3 w w.heap.size (fun k_ => P2_ k_) (.slice A2 l2.length c2) l2) (h : impl_WearBy.f k l0 a1 l2 = some (r1, r2)) :
  Calls Tryz.prog 4 #[.slice A0 l0.length c0, .int .i64 a1, .slice A2 l2.length c2] w fun e w' => ∃ v0_ : Value, e = .returned (.tuple #[v0_, .bool r2]) ∧ Kd.R (Kd.int .i64) 3 w' w.heap.size (fun k_ => (w.heap.size ≤ k_)) v0_ r1 ∧ Below w.heap.size w w' := by
 have HR0 := Aside0.mk hr0
 have HC0 := Aside0.mk hc0
 clear hr0 hc0
 have HO2 := Aside0.mk (show Kd.V (Kd.int .i64) 3 w w.heap.size (fun k_ => (P2_ k_ ∨ w.heap.size ≤ k_)) (.slice A2 l2.length c2) l2 from Kd.V_mono hs2 (fun k_ hk => .inl hk))
 have HB := Aside0.mk (Below.refl w.heap.size w)
 have H : ((impl_WearAll.f k l0 a1 (([l2] : List (List Int)))).bind fun bt130 => (some (bt130.1, bt130.2))) = some (r1, r2) := h
 clear h
 obtain ⟨y127, hy127⟩ : ∃ y_ : List (List Int), y_ = (([l2] : List (List Int))) := ⟨_, rfl⟩
 replace H : ((impl_WearAll.f k l0 a1 y127).bind fun bt130 => (some (bt130.1, bt130.2))) = some (r1, r2) := by first | (rw [hy127]; with_reducible exact H) | (have H2_ := (Option.bind_some _ _).symm.trans H; rw [hy127]; with_reducible exact H2_) | (have H2_ := (Option.bind_some _ _).symm.trans H; with_reducible exact H2_) | with_reducible exact H | (rw [hy127]; exact H) | exact H
 have Ny127 := Aside0.mk hy127
 clear hy127
 replace H := Option.bind_eq_some_iff.mp H
 obtain ⟨⟨t130, t131⟩, A40, H⟩ := H
 try dsimp only at H
 have A4 := Aside0.mk A40
 clear A40
 simp only [Option.some.injEq, Prod.mk.injEq] at H
 obtain ⟨rfl, rfl⟩ := H
 go_enter Tryz.func4, Tryz.ntmps4
 go_wp2_with (first | ((with_reducible refine gate_dst (N := 11) rfl ?_); refine Kd.N_lit (Kd.slice 3 (Kd.int .i64)) _ 22 ?hg (N' := 11) ?hd (xs := ([l2] : List (List Int))) (inner := [.slice A2 l2.length c2]) (ok := (fun k_ => (P2_ k_ ∨ w.heap.size ≤ k_))) (okp := (fun k_ => (P2_ k_ ∨ w.heap.size ≤ k_))) ?hr ?hp (fun _ hk => hk) ((show ∀ k_, w.heap.size ≤ k_ → (fun k_ => (P2_ k_ ∨ w.heap.size ≤ k_)) k_ from fun k_ hk => (.inr (Nat.le_trans (below_size (BS HB.out)) hk))) _ (Nat.le_refl _)) (Below.refl _ _) (Nat.le_refl _) (by simp) ?_; (case hd => rfl); (case hg => rfl); (case hr => first | (go_simp; done) | (go_simp; rfl)); (case hp => exact (Reps.one (show Kd.FK (Kd.slice 3 (Kd.int .i64)) _ _ l2 [.slice A2 l2.length c2] from (Kd.FK_slice_mk (Kd.V_reads' (Kd.V_mono (ok' := (fun k_ => (P2_ k_ ∨ w.heap.size ≤ k_))) (HO2.out) (fun k_ hk => hk))).2.1 (Kd.V_F (Kd.V_mono (ok' := (fun k_ => (P2_ k_ ∨ w.heap.size ≤ k_))) (HO2.out) (fun k_ hk => hk))))) (Reps.none _ _))); intro v128 w5 ho6 hb hg_ hnew_; clear hg_ hnew_; (first | rw [← Ny127.out] at ho6 | (simp only [Int.reduceToNat] at ho6; rw [← Ny127.out] at ho6)); have n0_ := Aside0.mk (Kd.V_elder' (VS HO2.out) (Kd.N_base ho6) hb); have n1_ := Aside0.mk (Kd.N_lower ho6 (below_size (BS HB.out))); have n2_ := Aside0.mk (below_step (BS HB.out) hb); clear HO2; clear HB; have HO2 := n0_; have HO129 := n1_; have HB := n2_; clear n0_ n1_ n2_; clear hb ho6; obtain ⟨Ao7, co7, eo7⟩ := Kd.N_slice HO129.out; subst eo7) | ((with_reducible refine gate_callee (f := 19) rfl ?_); refine goesL_ (some 12) rfl rfl Tryz.func19 (by kernel_rfl) rfl #[.slice A0 l0.length c0, .int .i64 a1, .slice Ao7 y127.length co7] rfl Zc ?_; (with_reducible refine (impl_WearAll.calls k _ _ l0 a1 _ _ y127 t130 t131 _ ?side1 ?side2 ?side3 ?side4 A4.out).mono ?_); (case side1 => exact CS (Kd.C_below HR0.out HB.out)); (case side2 => exact HC0.out); (case side3 => exact CS (Kd.N_reads' HO129.out).2.2); (case side4 => exact (Kd.N_reads' HO129.out).2.1); rintro e w8 ⟨v132, rfl, ho0, hb⟩; refine ⟨_, rfl, ?_⟩; have n0_ := Aside0.mk (Kd.V_elder' (VS HO2.out) (Kd.R_base ho0) hb); have n1_ := Aside0.mk (Kd.N_elder' (by (with_reducible repeat (first | apply Kd.N_alloc | apply Kd.N_drewN | apply Kd.N_drew)); exact HO129.out) (Kd.R_base ho0) hb); have n2_ := Aside0.mk (Kd.R_lower (Kd.R_newM (M := fun k_ => (w.heap.size ≤ k_)) ho0 (below_size (BS HB.out)) (fun k_ h_ => h_)) (below_size (BS HB.out))); have n3_ := Aside0.mk (below_step (BS HB.out) hb); clear HO2; clear HO129; clear HB; have HO2 := n0_; have HO129 := n1_; have HO133 := n2_; have HB := n3_; clear n0_ n1_ n2_ n3_; (try clear hb); (try clear hb2); (try clear hk); (try clear hi); (try clear ho0)))
 go_ret2
 exact ⟨_, Zb, RS (Kd.R_mono HO133.out (fun _ hk => hk.1)), BS HB.out⟩

/-! ### spec_l1In: function 50 -/
def spec_l1In.f (a0 : Int) (a1 : Int) (a2 : Int) : Option (Bool) := if a0 ≥ a1 then (some (decide (a0 ≤ a2))) else (some false)
set_option maxHeartbeats 8000000 in
set_option maxRecDepth 100000 in
theorem spec_l1In.calls (a0 : Int) (a1 : Int) (a2 : Int) (r : Bool) (w : World) (h : spec_l1In.f a0 a1 a2 = some r) :
  Calls Tryz.prog 50 #[.int .i64 a0, .int .i64 a1, .int .i64 a2] w fun e w' => e = .returned (.bool r) ∧ Drawn0 w w' := by
 have H : (if a0 ≥ a1 then (some (decide (a0 ≤ a2))) else (some false)) = some r := h
 clear h
 by_cases c4 : a0 ≥ a1
 ·rw [if_pos c4] at H
  have c4b0 : decide (a1 ≤ a0) = true := decide_eq_true c4
  clear c4
  obtain rfl := Option.some.inj H
  go_enter Tryz.func50, Tryz.ntmps50
  go_wp2
  go_ret
  exact ⟨Za, by repeat (first | exact Drawn0.refl _ | apply Drawn0.step)⟩
 ·rw [if_neg c4] at H
  have c4b0 : decide (a1 ≤ a0) = false := decide_eq_false c4
  clear c4
  obtain rfl := Option.some.inj H
  go_enter Tryz.func50, Tryz.ntmps50
  go_wp2
  go_ret
  exact ⟨Za, by repeat (first | exact Drawn0.refl _ | apply Drawn0.step)⟩

/-! ### spec_l1All: function 61 -/
def spec_l1All.l0 : Nat → Int → Int → List Int → Int → Int → Option (Bool)
 | 0, _, _, _, _, _ => none
 | k + 1, x1, x2, x9, x10, x11 => if x11 < x10 then (if 0 ≤ x11 then (if x11 < (x9.length : Int) then ((spec_l1In.f (rd x9 x11) x1 x2).bind fun t135 => (if t135 = true then (spec_l1All.l0 k x1 x2 x9 x10 (wrap64 (x11 + 1))) else (some false))) else (none)) else (none)) else (some true)
def spec_l1All.f (k : Nat) (l0 : List Int) (a1 : Int) (a2 : Int) : Option (Bool) := spec_l1All.l0 k a1 a2 l0 (l0.length : Int) 0
set_option maxHeartbeats 8000000 in
set_option maxRecDepth 100000 in
theorem spec_l1All.calls (k : Nat) (A0 : Option Addr) (c0 : Nat) (l0 : List Int) (a1 : Int) (a2 : Int) (r : Bool) (w : World) (hr0 : Kd.C (Kd.int .i64) w A0 l0.length l0) (hc0 : l0.length ≤ c0) (h : spec_l1All.f k l0 a1 a2 = some r) :
  Calls Tryz.prog 61 #[.slice A0 l0.length c0, .int .i64 a1, .int .i64 a2] w fun e w' => e = .returned (.bool r) ∧ Drawn0 w w' := by
 have HR0 := Aside0.mk hr0
 have HC0 := Aside0.mk hc0
 clear hr0 hc0
 have H : (spec_l1All.l0 k a1 a2 l0 (l0.length : Int) 0) = some r := h
 clear h
 have H' := Aside0.mk H
 clear H
 go_enter Tryz.func61, Tryz.ntmps61
 go_wp2
 go_loopg [11] k (fun kq v11 w' => ∃ (x11_1 : Int), v11 = .int .i64 x11_1 ∧ Aside0 (spec_l1All.l0 kq a1 a2 l0 (l0.length : Int) x11_1 = some r) ∧ Aside0 (kq ≤ k) ∧ Drawn0 w w')
 case atStart => exact ⟨(0), Za, H', ⟨Nat.le_refl _⟩, by repeat (first | exact Drawn0.refl _ | apply Drawn0.step)⟩
 case round =>
  clear H'
  (try clear p2)
  obtain ⟨x11_1, rfl, HA, HK1, ⟨m1, rfl⟩⟩ := hrel
  cases gk with
  | zero => exact absurd HA.out (by simp [spec_l1All.l0])
  | succ k1 =>
   have H := HA.out
   clear HA
   simp only [spec_l1All.l0] at H
   by_cases c4 : x11_1 < (l0.length : Int)
   ·rw [if_pos c4] at H
    have c4b0 : decide (x11_1 < (l0.length : Int)) = true := decide_eq_true c4
    clear c4
    by_cases c5 : 0 ≤ x11_1
    ·rw [if_pos c5] at H
     have c5b0 : decide (0 ≤ x11_1) = true := decide_eq_true c5
     clear c5
     by_cases c6 : x11_1 < (l0.length : Int)
     ·rw [if_pos c6] at H
      have c6b0 : decide (x11_1 < (l0.length : Int)) = true := decide_eq_true c6
      clear c6
      replace H := Option.bind_eq_some_iff.mp H
      obtain ⟨t135, A70, H⟩ := H
      try dsimp only at H
      have A7 := Aside0.mk A70
      clear A70
      by_cases c8 : t135 = true
      ·subst c8
       have H1 : (spec_l1All.l0 k1 a1 a2 l0 (l0.length : Int) (wrap64 (x11_1 + 1))) = some r := by rw [if_pos rfl] at H; exact H
       clear H
       have H := H1
       clear H1
       have H' := Aside0.mk H
       clear H
       have p134 : 0 ≤ (x11_1 : Int) := OD
       have q134 : x11_1 < (l0.length : Int) := OD
       obtain ⟨ad134, e134, hx134_0⟩ := Kd.at_int HR0.out x11_1 p134 q134
       cases e134
       replace p134 := eq_true p134
       replace q134 := eq_true q134
       go_wp2_with (first | ((with_reducible refine gate_callee (f := 50) rfl ?_); refine goesL_ (some 18) rfl rfl Tryz.func50 (by kernel_rfl) rfl #[.int .i64 (rd l0 x11_1), .int .i64 a1, .int .i64 a2] rfl Zc ?_; (with_reducible refine (spec_l1In.calls (rd l0 x11_1) a1 a2 true _ A7.out).mono ?_); rintro e w' ⟨rfl, ⟨nd, rfl⟩⟩; refine ⟨_, rfl, ?_⟩))
       go_roundg k1
       case measure => have := HK1.out; omega
       case rel => exact ⟨(wrap64 (x11_1 + 1)), Za, H', ⟨by have := HK1.out; omega⟩, by repeat (first | exact Drawn0.refl _ | apply Drawn0.step)⟩
      ·replace c8 := Bool.eq_false_iff.mpr c8
       subst c8
       have H1 : (some false) = some r := by rw [if_neg (show ¬ (false = true) by decide)] at H; exact H
       clear H
       have H := H1
       clear H1
       obtain rfl := Option.some.inj H
       have p134 : 0 ≤ (x11_1 : Int) := OD
       have q134 : x11_1 < (l0.length : Int) := OD
       obtain ⟨ad134, e134, hx134_0⟩ := Kd.at_int HR0.out x11_1 p134 q134
       cases e134
       replace p134 := eq_true p134
       replace q134 := eq_true q134
       go_wp2_with (first | ((with_reducible refine gate_callee (f := 50) rfl ?_); refine goesL_ (some 18) rfl rfl Tryz.func50 (by kernel_rfl) rfl #[.int .i64 (rd l0 x11_1), .int .i64 a1, .int .i64 a2] rfl Zc ?_; (with_reducible refine (spec_l1In.calls (rd l0 x11_1) a1 a2 false _ A7.out).mono ?_); rintro e w' ⟨rfl, ⟨nd, rfl⟩⟩; refine ⟨_, rfl, ?_⟩))
       go_ret
       exact ⟨Za, by repeat (first | exact Drawn0.refl _ | apply Drawn0.step)⟩
     ·rw [if_neg c6] at H
      exact absurd H (by simp)
    ·rw [if_neg c5] at H
     exact absurd H (by simp)
   ·rw [if_neg c4] at H
    have c4b0 : decide (x11_1 < (l0.length : Int)) = false := decide_eq_false c4
    clear c4
    obtain rfl := Option.some.inj H
    go_wp2
    go_ret
    exact ⟨Za, by repeat (first | exact Drawn0.refl _ | apply Drawn0.step)⟩

/-! ### spec_weGood: function 44 -/
def spec_weGood.f (k : Nat) (l0 : List Int) : Option (Bool) := (spec_l1In.f (l0.length : Int) 1 20).bind fun t136 => (if t136 = true then ((spec_l1All.f k l0 0 100).bind fun t137 => (some t137)) else (some false))
set_option maxHeartbeats 8000000 in
set_option maxRecDepth 100000 in
theorem spec_weGood.calls (k : Nat) (A0 : Option Addr) (c0 : Nat) (l0 : List Int) (r : Bool) (w : World) (hr0 : Kd.C (Kd.int .i64) w A0 l0.length l0) (hc0 : l0.length ≤ c0) (h : spec_weGood.f k l0 = some r) :
  Calls Tryz.prog 44 #[.slice A0 l0.length c0] w fun e w' => e = .returned (.bool r) ∧ Drawn0 w w' := by
 have HR0 := Aside0.mk hr0
 have HC0 := Aside0.mk hc0
 clear hr0 hc0
 have H : ((spec_l1In.f (l0.length : Int) 1 20).bind fun t136 => (if t136 = true then ((spec_l1All.f k l0 0 100).bind fun t137 => (some t137)) else (some false))) = some r := h
 clear h
 replace H := Option.bind_eq_some_iff.mp H
 obtain ⟨t136, A20, H⟩ := H
 try dsimp only at H
 have A2 := Aside0.mk A20
 clear A20
 by_cases c3 : t136 = true
 ·subst c3
  have H1 : ((spec_l1All.f k l0 0 100).bind fun t137 => (some t137)) = some r := by rw [if_pos rfl] at H; exact H
  clear H
  have H := H1
  clear H1
  replace H := Option.bind_eq_some_iff.mp H
  obtain ⟨t137, A40, H⟩ := H
  try dsimp only at H
  have A4 := Aside0.mk A40
  clear A40
  obtain rfl := Option.some.inj H
  go_enter Tryz.func44, Tryz.ntmps44
  go_wp2_with (first | ((with_reducible refine gate_callee (f := 50) rfl ?_); refine goesL_ (some 5) rfl rfl Tryz.func50 (by kernel_rfl) rfl #[.int .i64 (l0.length : Int), .int .i64 1, .int .i64 20] rfl Zc ?_; (with_reducible refine (spec_l1In.calls (l0.length : Int) 1 20 true _ A2.out).mono ?_); rintro e w' ⟨rfl, ⟨nd, rfl⟩⟩; refine ⟨_, rfl, ?_⟩) | (go_at_call 61; (with_reducible refine (spec_l1All.calls k _ _ l0 0 100 t137 _ ?side1 ?side2 A4.out).mono ?_); (case side1 => exact CS HR0.out); (case side2 => exact HC0.out); rintro e w' ⟨rfl, ⟨nd, rfl⟩⟩))
  go_ret
  exact ⟨Za, by repeat (first | exact Drawn0.refl _ | apply Drawn0.step)⟩
 ·replace c3 := Bool.eq_false_iff.mpr c3
  subst c3
  have H1 : (some false) = some r := by rw [if_neg (show ¬ (false = true) by decide)] at H; exact H
  clear H
  have H := H1
  clear H1
  obtain rfl := Option.some.inj H
  go_enter Tryz.func44, Tryz.ntmps44
  go_wp2_with (first | ((with_reducible refine gate_callee (f := 50) rfl ?_); refine goesL_ (some 5) rfl rfl Tryz.func50 (by kernel_rfl) rfl #[.int .i64 (l0.length : Int), .int .i64 1, .int .i64 20] rfl Zc ?_; (with_reducible refine (spec_l1In.calls (l0.length : Int) 1 20 false _ A2.out).mono ?_); rintro e w' ⟨rfl, ⟨nd, rfl⟩⟩; refine ⟨_, rfl, ?_⟩))
  go_ret
  exact ⟨Za, by repeat (first | exact Drawn0.refl _ | apply Drawn0.step)⟩

/-! ### spec_weReach: function 32 -/
def spec_weReach.f (k : Nat) (l0 : List Int) (a1 : Int) : Option (Bool) := (spec_weGood.f k l0).bind fun t138 => (if t138 = true then ((spec_l1In.f a1 1 20).bind fun t139 => (some t139)) else (some false))
set_option maxHeartbeats 8000000 in
set_option maxRecDepth 100000 in
theorem spec_weReach.calls (k : Nat) (A0 : Option Addr) (c0 : Nat) (l0 : List Int) (a1 : Int) (r : Bool) (w : World) (hr0 : Kd.C (Kd.int .i64) w A0 l0.length l0) (hc0 : l0.length ≤ c0) (h : spec_weReach.f k l0 a1 = some r) :
  Calls Tryz.prog 32 #[.slice A0 l0.length c0, .int .i64 a1] w fun e w' => e = .returned (.bool r) ∧ Drawn0 w w' := by
 have HR0 := Aside0.mk hr0
 have HC0 := Aside0.mk hc0
 clear hr0 hc0
 have H : ((spec_weGood.f k l0).bind fun t138 => (if t138 = true then ((spec_l1In.f a1 1 20).bind fun t139 => (some t139)) else (some false))) = some r := h
 clear h
 replace H := Option.bind_eq_some_iff.mp H
 obtain ⟨t138, A30, H⟩ := H
 try dsimp only at H
 have A3 := Aside0.mk A30
 clear A30
 by_cases c4 : t138 = true
 ·subst c4
  have H1 : ((spec_l1In.f a1 1 20).bind fun t139 => (some t139)) = some r := by rw [if_pos rfl] at H; exact H
  clear H
  have H := H1
  clear H1
  replace H := Option.bind_eq_some_iff.mp H
  obtain ⟨t139, A50, H⟩ := H
  try dsimp only at H
  have A5 := Aside0.mk A50
  clear A50
  obtain rfl := Option.some.inj H
  go_enter Tryz.func32, Tryz.ntmps32
  go_wp2_with (first | ((with_reducible refine gate_callee (f := 44) rfl ?_); refine goesL_ (some 6) rfl rfl Tryz.func44 (by kernel_rfl) rfl #[.slice A0 l0.length c0] rfl Zc ?_; (with_reducible refine (spec_weGood.calls k _ _ l0 true _ ?side1 ?side2 A3.out).mono ?_); (case side1 => exact CS HR0.out); (case side2 => exact HC0.out); rintro e w' ⟨rfl, ⟨nd, rfl⟩⟩; refine ⟨_, rfl, ?_⟩) | (go_at_call 50; (with_reducible refine (spec_l1In.calls a1 1 20 t139 _ A5.out).mono ?_); rintro e w' ⟨rfl, ⟨nd, rfl⟩⟩))
  go_ret
  exact ⟨Za, by repeat (first | exact Drawn0.refl _ | apply Drawn0.step)⟩
 ·replace c4 := Bool.eq_false_iff.mpr c4
  subst c4
  have H1 : (some false) = some r := by rw [if_neg (show ¬ (false = true) by decide)] at H; exact H
  clear H
  have H := H1
  clear H1
  obtain rfl := Option.some.inj H
  go_enter Tryz.func32, Tryz.ntmps32
  go_wp2_with (first | ((with_reducible refine gate_callee (f := 44) rfl ?_); refine goesL_ (some 6) rfl rfl Tryz.func44 (by kernel_rfl) rfl #[.slice A0 l0.length c0] rfl Zc ?_; (with_reducible refine (spec_weGood.calls k _ _ l0 false _ ?side1 ?side2 A3.out).mono ?_); (case side1 => exact CS HR0.out); (case side2 => exact HC0.out); rintro e w' ⟨rfl, ⟨nd, rfl⟩⟩; refine ⟨_, rfl, ?_⟩))
  go_ret
  exact ⟨Za, by repeat (first | exact Drawn0.refl _ | apply Drawn0.step)⟩

/-! ### spec_l1Least: function 58 -/
def spec_l1Least.f (a0 : Int) (a1 : Int) : Option (Int) := if a0 < a1 then (some a0) else (some a1)
set_option maxHeartbeats 8000000 in
set_option maxRecDepth 100000 in
theorem spec_l1Least.calls (a0 : Int) (a1 : Int) (r : Int) (w : World) (h : spec_l1Least.f a0 a1 = some r) :
  Calls Tryz.prog 58 #[.int .i64 a0, .int .i64 a1] w fun e w' => e = .returned (.int .i64 r) ∧ Drawn0 w w' := by
 have H : (if a0 < a1 then (some a0) else (some a1)) = some r := h
 clear h
 by_cases c3 : a0 < a1
 ·rw [if_pos c3] at H
  have c3b0 : decide (a0 < a1) = true := decide_eq_true c3
  clear c3
  obtain rfl := Option.some.inj H
  go_enter Tryz.func58, Tryz.ntmps58
  go_wp2
  go_ret
  exact ⟨Za, by repeat (first | exact Drawn0.refl _ | apply Drawn0.step)⟩
 ·rw [if_neg c3] at H
  have c3b0 : decide (a0 < a1) = false := decide_eq_false c3
  clear c3
  obtain rfl := Option.some.inj H
  go_enter Tryz.func58, Tryz.ntmps58
  go_wp2
  go_ret
  exact ⟨Za, by repeat (first | exact Drawn0.refl _ | apply Drawn0.step)⟩

/-! ### spec_weIs: function 33 -/
def spec_weIs.l0 : Nat → List Int → Int → Int → List Int → Int → Int → Option (Bool)
 | 0, _, _, _, _, _, _ => none
 | k + 1, x0, x1, x7, x10, x11, x12 => if x12 < x11 then (if 0 ≤ x12 then (if x12 < (x10.length : Int) then ((spec_l1Least.f (wrap64 (x7 + x1)) (x0.length : Int)).bind fun t141 => ((spec_l1In.f (rd x10 x12) (wrap64 (x7 + 1)) t141).bind fun t142 => (if t142 = true then (if 0 ≤ (wrap64 ((rd x10 x12) - 1)) then (if (wrap64 ((rd x10 x12) - 1)) < (x0.length : Int) then (if (rd x0 (wrap64 ((rd x10 x12) - 1))) = 0 then (some false) else (spec_weIs.l0 k x0 x1 (rd x10 x12) x10 x11 (wrap64 (x12 + 1)))) else (none)) else (none)) else (some false)))) else (none)) else (none)) else (some (decide ((wrap64 ((wrap64 ((x0.length : Int) + 1)) - x7)) ≤ x1)))
def spec_weIs.f (k : Nat) (l0 : List Int) (a1 : Int) (l2 : List Int) : Option (Bool) := spec_weIs.l0 k l0 a1 0 l2 (l2.length : Int) 0
set_option maxHeartbeats 8000000 in
set_option maxRecDepth 100000 in
theorem spec_weIs.calls (k : Nat) (A0 : Option Addr) (c0 : Nat) (l0 : List Int) (a1 : Int) (A2 : Option Addr) (c2 : Nat) (l2 : List Int) (r : Bool) (w : World) (hr0 : Kd.C (Kd.int .i64) w A0 l0.length l0) (hc0 : l0.length ≤ c0) (hr2 : Kd.C (Kd.int .i64) w A2 l2.length l2) (hc2 : l2.length ≤ c2) (h : spec_weIs.f k l0 a1 l2 = some r) :
  Calls Tryz.prog 33 #[.slice A0 l0.length c0, .int .i64 a1, .slice A2 l2.length c2] w fun e w' => e = .returned (.bool r) ∧ Drawn0 w w' := by
 have HR0 := Aside0.mk hr0
 have HC0 := Aside0.mk hc0
 clear hr0 hc0
 have HR2 := Aside0.mk hr2
 have HC2 := Aside0.mk hc2
 clear hr2 hc2
 have H : (spec_weIs.l0 k l0 a1 0 l2 (l2.length : Int) 0) = some r := h
 clear h
 have H' := Aside0.mk H
 clear H
 go_enter Tryz.func33, Tryz.ntmps33
 go_wp2
 go_loopg [7, 12] k (fun kq v7 v12 w' => ∃ (x7_1 : Int) (x12_1 : Int), v7 = .int .i64 x7_1 ∧ v12 = .int .i64 x12_1 ∧ Aside0 (spec_weIs.l0 kq l0 a1 x7_1 l2 (l2.length : Int) x12_1 = some r) ∧ Aside0 (kq ≤ k) ∧ Drawn0 w w')
 case atStart => exact ⟨(0), (0), Za, Za, H', ⟨Nat.le_refl _⟩, by repeat (first | exact Drawn0.refl _ | apply Drawn0.step)⟩
 case round =>
  clear H'
  (try clear c2); (try clear p2); (try clear c3)
  obtain ⟨x7_1, x12_1, rfl, rfl, HA, HK1, ⟨m1, rfl⟩⟩ := hrel
  cases gk with
  | zero => exact absurd HA.out (by simp [spec_weIs.l0])
  | succ k1 =>
   have H := HA.out
   clear HA
   simp only [spec_weIs.l0] at H
   by_cases c4 : x12_1 < (l2.length : Int)
   ·rw [if_pos c4] at H
    have c4b0 : decide (x12_1 < (l2.length : Int)) = true := decide_eq_true c4
    clear c4
    by_cases c5 : 0 ≤ x12_1
    ·rw [if_pos c5] at H
     have c5b0 : decide (0 ≤ x12_1) = true := decide_eq_true c5
     clear c5
     by_cases c6 : x12_1 < (l2.length : Int)
     ·rw [if_pos c6] at H
      have c6b0 : decide (x12_1 < (l2.length : Int)) = true := decide_eq_true c6
      clear c6
      replace H := Option.bind_eq_some_iff.mp H
      obtain ⟨t141, A70, H⟩ := H
      try dsimp only at H
      have A7 := Aside0.mk A70
      clear A70
      replace H := Option.bind_eq_some_iff.mp H
      obtain ⟨t142, A80, H⟩ := H
      try dsimp only at H
      have A8 := Aside0.mk A80
      clear A80
      by_cases c9 : t142 = true
      ·subst c9
       have H1 : (if 0 ≤ (wrap64 ((rd l2 x12_1) - 1)) then (if (wrap64 ((rd l2 x12_1) - 1)) < (l0.length : Int) then (if (rd l0 (wrap64 ((rd l2 x12_1) - 1))) = 0 then (some false) else (spec_weIs.l0 k1 l0 a1 (rd l2 x12_1) l2 (l2.length : Int) (wrap64 (x12_1 + 1)))) else (none)) else (none)) = some r := by rw [if_pos rfl] at H; exact H
       clear H
       have H := H1
       clear H1
       obtain ⟨ji10, hji10⟩ : ∃ j_ : Int, (wrap64 ((rd l2 x12_1) - 1)) = j_ := ⟨_, rfl⟩
       replace H : (if 0 ≤ (ji10) then (if (ji10) < (l0.length : Int) then (if (rd l0 (ji10)) = 0 then (some false) else (spec_weIs.l0 k1 l0 a1 (rd l2 x12_1) l2 (l2.length : Int) (wrap64 (x12_1 + 1)))) else (none)) else (none)) = some r := by first | (rw [hji10] at H; exact H) | (simp only [hji10] at H ⊢; exact H)
       (try rw [hji10] at A7)
       (try rw [hji10] at A8)
       have hji10w : (IntKind.i64.wrap ((rd l2 x12_1) - 1)) = ji10 := (i64_w _).trans hji10
       by_cases c11 : 0 ≤ (ji10)
       ·rw [if_pos c11] at H
        have c11b0 : decide (0 ≤ (ji10)) = true := decide_eq_true c11
        clear c11
        by_cases c12 : (ji10) < (l0.length : Int)
        ·rw [if_pos c12] at H
         have c12b0 : decide ((ji10) < (l0.length : Int)) = true := decide_eq_true c12
         clear c12
         by_cases c13 : (rd l0 (ji10)) = 0
         ·rw [if_pos c13] at H
          have c13b0 : ((rd l0 (ji10)) == 0) = true := beq_iff_eq.mpr c13
          have c13b1 : ((rd l0 (ji10)) != 0) = false := bne_eq_false_iff_eq.mpr c13
          clear c13
          obtain rfl := Option.some.inj H
          have p140 : 0 ≤ (x12_1 : Int) := OD
          have q140 : x12_1 < (l2.length : Int) := OD
          obtain ⟨ad140, e140, hx140_0⟩ := Kd.at_int HR2.out x12_1 p140 q140
          cases e140
          replace p140 := eq_true p140
          replace q140 := eq_true q140
          go_wp2_with (first | ((with_reducible refine gate_callee (f := 58) rfl ?_); refine goesL_ (some 24) rfl rfl Tryz.func58 (by kernel_rfl) rfl #[.int .i64 (wrap64 (x7_1 + a1)), .int .i64 (l0.length : Int)] rfl Zc ?_; (with_reducible refine (spec_l1Least.calls (wrap64 (x7_1 + a1)) (l0.length : Int) t141 _ A7.out).mono ?_); rintro e w' ⟨rfl, ⟨nd, rfl⟩⟩; refine ⟨_, rfl, ?_⟩) | ((with_reducible refine gate_callee (f := 50) rfl ?_); refine goesL_ (some 25) rfl rfl Tryz.func50 (by kernel_rfl) rfl #[.int .i64 (rd l2 x12_1), .int .i64 (wrap64 (x7_1 + 1)), .int .i64 t141] rfl Zc ?_; (with_reducible refine (spec_l1In.calls (rd l2 x12_1) (wrap64 (x7_1 + 1)) t141 true _ A8.out).mono ?_); rintro e w' ⟨rfl, ⟨nd, rfl⟩⟩; refine ⟨_, rfl, ?_⟩; have p143 : 0 ≤ ((ji10) : Int) := OD; have q143 : (ji10) < (l0.length : Int) := OD; obtain ⟨ad143, e143, hx143_0⟩ := Kd.at_int HR0.out (ji10) p143 q143; cases e143; replace p143 := eq_true p143; replace q143 := eq_true q143))
          go_ret
          exact ⟨by first | rfl | (simp; done) | (simp only [← hji10] <;> (first | rfl | simp)) | (simp [*]; done), by repeat (first | exact Drawn0.refl _ | apply Drawn0.step)⟩
         ·rw [if_neg c13] at H
          have c13b0 : ((rd l0 (ji10)) == 0) = false := beq_eq_false_iff_ne.mpr c13
          have c13b1 : ((rd l0 (ji10)) != 0) = true := bne_iff_ne.mpr c13
          have H' := Aside0.mk H
          clear H
          have p140 : 0 ≤ (x12_1 : Int) := OD
          have q140 : x12_1 < (l2.length : Int) := OD
          obtain ⟨ad140, e140, hx140_0⟩ := Kd.at_int HR2.out x12_1 p140 q140
          cases e140
          replace p140 := eq_true p140
          replace q140 := eq_true q140
          go_wp2_with (first | ((with_reducible refine gate_callee (f := 58) rfl ?_); refine goesL_ (some 24) rfl rfl Tryz.func58 (by kernel_rfl) rfl #[.int .i64 (wrap64 (x7_1 + a1)), .int .i64 (l0.length : Int)] rfl Zc ?_; (with_reducible refine (spec_l1Least.calls (wrap64 (x7_1 + a1)) (l0.length : Int) t141 _ A7.out).mono ?_); rintro e w' ⟨rfl, ⟨nd, rfl⟩⟩; refine ⟨_, rfl, ?_⟩) | ((with_reducible refine gate_callee (f := 50) rfl ?_); refine goesL_ (some 25) rfl rfl Tryz.func50 (by kernel_rfl) rfl #[.int .i64 (rd l2 x12_1), .int .i64 (wrap64 (x7_1 + 1)), .int .i64 t141] rfl Zc ?_; (with_reducible refine (spec_l1In.calls (rd l2 x12_1) (wrap64 (x7_1 + 1)) t141 true _ A8.out).mono ?_); rintro e w' ⟨rfl, ⟨nd, rfl⟩⟩; refine ⟨_, rfl, ?_⟩; have p143 : 0 ≤ ((ji10) : Int) := OD; have q143 : (ji10) < (l0.length : Int) := OD; obtain ⟨ad143, e143, hx143_0⟩ := Kd.at_int HR0.out (ji10) p143 q143; cases e143; replace p143 := eq_true p143; replace q143 := eq_true q143))
          go_roundg k1
          case measure => have := HK1.out; omega
          case rel => exact ⟨(rd l2 x12_1), (wrap64 (x12_1 + 1)), Za, Za, H', ⟨by have := HK1.out; omega⟩, by repeat (first | exact Drawn0.refl _ | apply Drawn0.step)⟩
        ·rw [if_neg c12] at H
         exact absurd H (by simp)
       ·rw [if_neg c11] at H
        exact absurd H (by simp)
      ·replace c9 := Bool.eq_false_iff.mpr c9
       subst c9
       have H1 : (some false) = some r := by rw [if_neg (show ¬ (false = true) by decide)] at H; exact H
       clear H
       have H := H1
       clear H1
       obtain rfl := Option.some.inj H
       have p140 : 0 ≤ (x12_1 : Int) := OD
       have q140 : x12_1 < (l2.length : Int) := OD
       obtain ⟨ad140, e140, hx140_0⟩ := Kd.at_int HR2.out x12_1 p140 q140
       cases e140
       replace p140 := eq_true p140
       replace q140 := eq_true q140
       go_wp2_with (first | ((with_reducible refine gate_callee (f := 58) rfl ?_); refine goesL_ (some 24) rfl rfl Tryz.func58 (by kernel_rfl) rfl #[.int .i64 (wrap64 (x7_1 + a1)), .int .i64 (l0.length : Int)] rfl Zc ?_; (with_reducible refine (spec_l1Least.calls (wrap64 (x7_1 + a1)) (l0.length : Int) t141 _ A7.out).mono ?_); rintro e w' ⟨rfl, ⟨nd, rfl⟩⟩; refine ⟨_, rfl, ?_⟩) | ((with_reducible refine gate_callee (f := 50) rfl ?_); refine goesL_ (some 25) rfl rfl Tryz.func50 (by kernel_rfl) rfl #[.int .i64 (rd l2 x12_1), .int .i64 (wrap64 (x7_1 + 1)), .int .i64 t141] rfl Zc ?_; (with_reducible refine (spec_l1In.calls (rd l2 x12_1) (wrap64 (x7_1 + 1)) t141 false _ A8.out).mono ?_); rintro e w' ⟨rfl, ⟨nd, rfl⟩⟩; refine ⟨_, rfl, ?_⟩))
       go_ret
       exact ⟨Za, by repeat (first | exact Drawn0.refl _ | apply Drawn0.step)⟩
     ·rw [if_neg c6] at H
      exact absurd H (by simp)
    ·rw [if_neg c5] at H
     exact absurd H (by simp)
   ·rw [if_neg c4] at H
    have c4b0 : decide (x12_1 < (l2.length : Int)) = false := decide_eq_false c4
    clear c4
    obtain rfl := Option.some.inj H
    go_wp2
    go_ret
    exact ⟨Za, by repeat (first | exact Drawn0.refl _ | apply Drawn0.step)⟩

end Go.Proofs.YtmonnbbihmpedaaGreatDoor.PFnStepsWornOfAll
