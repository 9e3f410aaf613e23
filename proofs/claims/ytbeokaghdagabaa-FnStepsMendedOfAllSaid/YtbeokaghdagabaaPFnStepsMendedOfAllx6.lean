-- Written by wip/gen/mp.py of this repo (the kit's printer with our own parts): functions and their contracts.
import Derived.Test.YtbeokaghdagabaaPFnStepsMendedOfAllx0
import Derived.Test.YtbeokaghdagabaaPFnStepsMendedOfAllx5
namespace Go.Proofs.Ytbeokaghdagabaa.PFnStepsMendedOfAll
open Go.RowKit Go.Proofs.YtbeokaghdagabaaW.PrintWords Go.Proofs.YtbeokaghdagabaaW.PrintLast Go.Proofs.YtbeokaghdagabaaW.PrintMore
attribute [local go_sem] max2_int min2_int max_two min_two max_three min_three max_four min_four   -- for this text's walks alone
set_option linter.unusedVariables false
set_option linter.unusedSimpArgs false

/-! ### impl_ways: function 58 -/
mutual
def impl_ways.l0 : Nat → List Int → Int → Int → List Int → List Int → Int → Option (List Int × List Int)
 | 0, _, _, _, _, _, _ => none
 | k + 1, x0, x1, x6, x7, x8, x9 => if x9 ≥ 0 then (impl_ways.l1 k x0 x1 x6 x7 x8 x9 (wrap64 (x9 + 1))) else (some (x7, x8))
def impl_ways.l1 : Nat → List Int → Int → Int → List Int → List Int → Int → Int → Option (List Int × List Int)
 | 0, _, _, _, _, _, _, _ => none
 | k + 1, x0, x1, x6, x7, x8, x9, x10 => if x10 ≤ (mn (wrap64 (x9 + x1)) x6) then (if 0 ≤ x10 then (if x10 < (x8.length : Int) then (if (rd x8 x10) < 0 then (impl_ways.l1 k x0 x1 x6 x7 x8 x9 (wrap64 (x10 + 1))) else (if x10 = x6 then (if 0 ≤ x9 then (if x9 < (x7.length : Int) then (if x10 < (x7.length : Int) then ((some (x7.set (x9 : Int).toNat (wrap64 ((rd x7 x9) + (rd x7 x10))) : List Int)).bind fun y270 => (if x9 < (x8.length : Int) then (if (rd x8 x9) < 0 then (impl_ways.l1 k x0 x1 x6 y270 (x8.set (x9 : Int).toNat 0) x9 (wrap64 (x10 + 1))) else (if 0 < (rd x8 x9) then (impl_ways.l1 k x0 x1 x6 y270 (x8.set (x9 : Int).toNat 0) x9 (wrap64 (x10 + 1))) else (impl_ways.l1 k x0 x1 x6 y270 x8 x9 (wrap64 (x10 + 1))))) else (none))) else (none)) else (none)) else (none)) else (if 0 ≤ x9 then (if x9 < (x7.length : Int) then (if x10 < (x7.length : Int) then ((some (x7.set (x9 : Int).toNat (wrap64 ((rd x7 x9) + (rd x7 x10))) : List Int)).bind fun y277 => (if x9 < (x8.length : Int) then (if (rd x8 x9) < 0 then (impl_ways.l1 k x0 x1 x6 y277 (x8.set (x9 : Int).toNat (wrap64 ((rd x8 x10) + 1))) x9 (wrap64 (x10 + 1))) else (if (wrap64 ((rd x8 x10) + 1)) < (rd x8 x9) then (impl_ways.l1 k x0 x1 x6 y277 (x8.set (x9 : Int).toNat (wrap64 ((rd x8 x10) + 1))) x9 (wrap64 (x10 + 1))) else (impl_ways.l1 k x0 x1 x6 y277 x8 x9 (wrap64 (x10 + 1))))) else (none))) else (none)) else (none)) else (none)))) else (none)) else (none)) else (if x9 > 0 then (if 0 ≤ (wrap64 (x9 - 1)) then (if (wrap64 (x9 - 1)) < (x0.length : Int) then (if (rd x0 (wrap64 (x9 - 1))) = 0 then (if 0 ≤ x9 then (if x9 < (x7.length : Int) then (if x9 < (x8.length : Int) then (impl_ways.l0 k x0 x1 x6 (x7.set (x9 : Int).toNat 0) (x8.set (x9 : Int).toNat (-1)) (wrap64 (x9 - 1))) else (none)) else (none)) else (none)) else (impl_ways.l0 k x0 x1 x6 x7 x8 (wrap64 (x9 - 1)))) else (none)) else (none)) else (impl_ways.l0 k x0 x1 x6 x7 x8 (wrap64 (x9 - 1))))
end
def impl_ways.f (k : Nat) (l0 : List Int) (a1 : Int) : Option (List Int × List Int) := if 0 ≤ (wrap64 ((wrap64 ((l0.length : Int) + 1)) + 1)) then (if (wrap64 ((wrap64 ((l0.length : Int) + 1)) + 1) : Int).toNat ≤ 35184372088832 then ((some (List.replicate (wrap64 ((wrap64 ((l0.length : Int) + 1)) + 1) : Int).toNat 0 : List Int)).bind fun y252 => ((slices_Repeat_int_int.f (([(-1)] : List Int)) (wrap64 ((wrap64 ((l0.length : Int) + 1)) + 1))).bind fun t258 => (if 0 ≤ (wrap64 ((l0.length : Int) + 1)) then (if (wrap64 ((l0.length : Int) + 1)) < (y252.length : Int) then (if (wrap64 ((l0.length : Int) + 1)) < (t258.length : Int) then (impl_ways.l0 k l0 a1 (wrap64 ((l0.length : Int) + 1)) (y252.set ((wrap64 ((l0.length : Int) + 1)) : Int).toNat 1) (t258.set ((wrap64 ((l0.length : Int) + 1)) : Int).toNat 0) (wrap64 ((wrap64 ((l0.length : Int) + 1)) - 1))) else (none)) else (none)) else (none)))) else (none)) else (none)
def impl_ways.T2 : Bool × List (List Nat × List Nat) := (true, [([], []), ([0], [0]), ([1, 1], [1]), ([], []), ([], []), ([4], [4]), ([3, 5], [3, 5]), ([2, 6, 0, 1, 2], [2]), ([6, 7, 0, 1, 2, 3, 4, 5, 6, 7], [6])])
def impl_ways.B2 : List Nat := [0, 1, 3, 0, 0, 16, 56, 127, 255]
theorem impl_ways.tab2 : rtab .any (opsOf Try.f58 2) = impl_ways.T2 := by kernel_rfl
theorem impl_ways.bits2 : waitsOk impl_ways.T2.2 impl_ways.B2 = true := by kernel_rfl
def impl_ways.T14 : Bool × List (List Nat × List Nat) := (true, [([], []), ([], []), ([0, 1], [0, 1]), ([2], [2]), ([], []), ([], []), ([4, 5], [4, 5]), ([6], [6]), ([3, 7], [3, 7]), ([0, 1, 0, 1, 2, 3, 4, 5, 6, 7, 8], [0, 1]), ([9, 8, 0, 1, 2, 3, 4, 5, 6, 7, 8], [8, 9])])
def impl_ways.B14 : List Nat := [0, 0, 3, 7, 0, 0, 48, 112, 255, 511, 1023]
theorem impl_ways.tab14 : rtab .any (opsOf Try.f58 14) = impl_ways.T14 := by kernel_rfl
theorem impl_ways.bits14 : waitsOk impl_ways.T14.2 impl_ways.B14 = true := by kernel_rfl
set_option maxHeartbeats 8000000 in
set_option maxRecDepth 100000 in
theorem impl_ways.calls (k : Nat) (A0 : Option Addr) (c0 : Nat) (l0 : List Int) (a1 : Int) (r1 : List Int) (r2 : List Int) (w : World) (hr0 : Kd.C (Kd.int .i64) w A0 l0.length l0) (hc0 : l0.length ≤ c0) (h : impl_ways.f k l0 a1 = some (r1, r2)) :
  Calls Try.prog 58 #[.slice A0 l0.length c0, .int .i64 a1] w fun e w' => ∃ v0_ v1_ : Value, e = .returned (.tuple #[v0_, v1_]) ∧ Kd.R (Kd.int .i64) 3 w' w.heap.size (fun k_ => some k_ ≠ (v1_ : Value).ownBlock) v0_ r1 ∧ Kd.R (Kd.int .i64) 3 w' w.heap.size (fun k_ => some k_ ≠ (v0_ : Value).ownBlock) v1_ r2 ∧ Below w.heap.size w w' := by
 have HR0 := Aside0.mk hr0
 have HC0 := Aside0.mk hc0
 clear hr0 hc0
 have HB := Aside0.mk (Below.refl w.heap.size w)
 have H : (if 0 ≤ (wrap64 ((wrap64 ((l0.length : Int) + 1)) + 1)) then (if (wrap64 ((wrap64 ((l0.length : Int) + 1)) + 1) : Int).toNat ≤ 35184372088832 then ((some (List.replicate (wrap64 ((wrap64 ((l0.length : Int) + 1)) + 1) : Int).toNat 0 : List Int)).bind fun y252 => ((slices_Repeat_int_int.f (([(-1)] : List Int)) (wrap64 ((wrap64 ((l0.length : Int) + 1)) + 1))).bind fun t258 => (if 0 ≤ (wrap64 ((l0.length : Int) + 1)) then (if (wrap64 ((l0.length : Int) + 1)) < (y252.length : Int) then (if (wrap64 ((l0.length : Int) + 1)) < (t258.length : Int) then (impl_ways.l0 k l0 a1 (wrap64 ((l0.length : Int) + 1)) (y252.set ((wrap64 ((l0.length : Int) + 1)) : Int).toNat 1) (t258.set ((wrap64 ((l0.length : Int) + 1)) : Int).toNat 0) (wrap64 ((wrap64 ((l0.length : Int) + 1)) - 1))) else (none)) else (none)) else (none)))) else (none)) else (none)) = some (r1, r2) := h
 clear h
 obtain ⟨ji3, hji3⟩ : ∃ j_ : Int, (wrap64 ((wrap64 ((l0.length : Int) + 1)) + 1)) = j_ := ⟨_, rfl⟩
 replace H : (if 0 ≤ (ji3) then (if (ji3 : Int).toNat ≤ 35184372088832 then ((some (List.replicate (ji3 : Int).toNat 0 : List Int)).bind fun y252 => ((slices_Repeat_int_int.f (([(-1)] : List Int)) (ji3)).bind fun t258 => (if 0 ≤ (wrap64 ((l0.length : Int) + 1)) then (if (wrap64 ((l0.length : Int) + 1)) < (y252.length : Int) then (if (wrap64 ((l0.length : Int) + 1)) < (t258.length : Int) then (impl_ways.l0 k l0 a1 (wrap64 ((l0.length : Int) + 1)) (y252.set ((wrap64 ((l0.length : Int) + 1)) : Int).toNat 1) (t258.set ((wrap64 ((l0.length : Int) + 1)) : Int).toNat 0) (wrap64 ((wrap64 ((l0.length : Int) + 1)) - 1))) else (none)) else (none)) else (none)))) else (none)) else (none)) = some (r1, r2) := by first | (rw [hji3] at H; exact H) | (simp only [hji3] at H ⊢; exact H)
 have hji3w : (IntKind.i64.wrap ((wrap64 ((l0.length : Int) + 1)) + 1)) = ji3 := (i64_w _).trans hji3
 by_cases c4 : 0 ≤ (ji3)
 ·rw [if_pos c4] at H
  have c4b0 := eq_true c4
  have c4b1 : decide (0 ≤ (ji3)) = true := decide_eq_true c4
  clear c4
  by_cases c5 : (ji3 : Int).toNat ≤ 35184372088832
  ·rw [if_pos c5] at H
   have c5b0 := eq_true c5
   have c5b1 : decide ((ji3 : Int).toNat ≤ 35184372088832) = true := decide_eq_true c5
   clear c5
   obtain ⟨y252, hy252⟩ : ∃ y_ : List Int, y_ = (List.replicate (ji3 : Int).toNat 0) := ⟨_, rfl⟩
   replace H : ((slices_Repeat_int_int.f (([(-1)] : List Int)) (ji3)).bind fun t258 => (if 0 ≤ (wrap64 ((l0.length : Int) + 1)) then (if (wrap64 ((l0.length : Int) + 1)) < (y252.length : Int) then (if (wrap64 ((l0.length : Int) + 1)) < (t258.length : Int) then (impl_ways.l0 k l0 a1 (wrap64 ((l0.length : Int) + 1)) (y252.set ((wrap64 ((l0.length : Int) + 1)) : Int).toNat 1) (t258.set ((wrap64 ((l0.length : Int) + 1)) : Int).toNat 0) (wrap64 ((wrap64 ((l0.length : Int) + 1)) - 1))) else (none)) else (none)) else (none))) = some (r1, r2) := by first | (rw [hy252]; with_reducible exact H) | (have H2_ := (Option.bind_some _ _).symm.trans H; rw [hy252]; with_reducible exact H2_) | (have H2_ := (Option.bind_some _ _).symm.trans H; with_reducible exact H2_) | with_reducible exact H | (rw [hy252]; exact H) | exact H
   have Ny252 := Aside0.mk hy252
   clear hy252
   obtain ⟨y255, hy255⟩ : ∃ y_ : List Int, y_ = (([(-1)] : List Int)) := ⟨_, rfl⟩
   replace H : ((slices_Repeat_int_int.f y255 (ji3)).bind fun t258 => (if 0 ≤ (wrap64 ((l0.length : Int) + 1)) then (if (wrap64 ((l0.length : Int) + 1)) < (y252.length : Int) then (if (wrap64 ((l0.length : Int) + 1)) < (t258.length : Int) then (impl_ways.l0 k l0 a1 (wrap64 ((l0.length : Int) + 1)) (y252.set ((wrap64 ((l0.length : Int) + 1)) : Int).toNat 1) (t258.set ((wrap64 ((l0.length : Int) + 1)) : Int).toNat 0) (wrap64 ((wrap64 ((l0.length : Int) + 1)) - 1))) else (none)) else (none)) else (none))) = some (r1, r2) := by first | (rw [hy255]; with_reducible exact H) | (have H2_ := (Option.bind_some _ _).symm.trans H; rw [hy255]; with_reducible exact H2_) | (have H2_ := (Option.bind_some _ _).symm.trans H; with_reducible exact H2_) | with_reducible exact H | (rw [hy255]; exact H) | exact H
   have Ny255 := Aside0.mk hy255
   clear hy255
   replace H := Option.bind_eq_some_iff.mp H
   obtain ⟨t258, A60, H⟩ := H
   try dsimp only at H
   have A6 := Aside0.mk A60
   clear A60
   obtain ⟨ji7, hji7⟩ : ∃ j_ : Int, (wrap64 ((l0.length : Int) + 1)) = j_ := ⟨_, rfl⟩
   replace H : (if 0 ≤ (ji7) then (if (ji7) < (y252.length : Int) then (if (ji7) < (t258.length : Int) then (impl_ways.l0 k l0 a1 ji7 (y252.set ((ji7) : Int).toNat 1) (t258.set ((ji7) : Int).toNat 0) (wrap64 ((ji7) - 1))) else (none)) else (none)) else (none)) = some (r1, r2) := by first | (rw [hji7] at H; exact H) | (simp only [hji7] at H ⊢; exact H)
   (try rw [hji7] at A6)
   have hji7w : (IntKind.i64.wrap ((l0.length : Int) + 1)) = ji7 := (i64_w _).trans hji7
   (try (rw [hji7] at hji3; clear hji3w; have hji3w := (i64_w _).trans hji3))
   by_cases c8 : 0 ≤ (ji7)
   ·rw [if_pos c8] at H
    have c8b0 : decide (0 ≤ (ji7)) = true := decide_eq_true c8
    clear c8
    by_cases c9 : (ji7) < (y252.length : Int)
    ·rw [if_pos c9] at H
     have c9b0 : decide ((ji7) < (y252.length : Int)) = true := decide_eq_true c9
     clear c9
     obtain ⟨y261, hy261⟩ : ∃ y_ : List Int, y_ = (y252.set ((ji7) : Int).toNat 1) := ⟨_, rfl⟩
     replace H : (if (ji7) < (t258.length : Int) then (impl_ways.l0 k l0 a1 ji7 y261 (t258.set ((ji7) : Int).toNat 0) (wrap64 ((ji7) - 1))) else (none)) = some (r1, r2) := by first | (rw [hy261]; with_reducible exact H) | (have H2_ := (Option.bind_some _ _).symm.trans H; rw [hy261]; with_reducible exact H2_) | (have H2_ := (Option.bind_some _ _).symm.trans H; with_reducible exact H2_) | with_reducible exact H | (rw [hy261]; exact H) | exact H
     have Ny261 := Aside0.mk hy261
     clear hy261
     by_cases c11 : (ji7) < (t258.length : Int)
     ·rw [if_pos c11] at H
      have c11b0 : decide ((ji7) < (t258.length : Int)) = true := decide_eq_true c11
      clear c11
      obtain ⟨y262, hy262⟩ : ∃ y_ : List Int, y_ = (t258.set ((ji7) : Int).toNat 0) := ⟨_, rfl⟩
      replace H : (impl_ways.l0 k l0 a1 ji7 y261 y262 (wrap64 ((ji7) - 1))) = some (r1, r2) := by first | (rw [hy262]; with_reducible exact H) | (have H2_ := (Option.bind_some _ _).symm.trans H; rw [hy262]; with_reducible exact H2_) | (have H2_ := (Option.bind_some _ _).symm.trans H; with_reducible exact H2_) | with_reducible exact H | (rw [hy262]; exact H) | exact H
      have Ny262 := Aside0.mk hy262
      clear hy262
      have H' := Aside0.mk H
      clear H
      go_enter Try.func58, Try.ntmps58
      try go_wp2
      have n0_ := Aside0.mk (below_drew1 HB.out)
      clear HB
      have HB := n0_
      clear n0_
      refine start_ (n := 9) (S := fun w' => True) (ds := []) #[false, false, false, false, false, false, false, false, false] (by kernel_rfl) rfl rfl trivial (fun hHeld => ?_); refine with_tabW impl_ways.tab2 impl_ways.bits2 (fun HT_ HW_ => ?_)
      generalize w.drew = w13 at HB hHeld ⊢
      refine pure_ (i := 0) (N := some 15) (v := ?_) (a' := ?_) #[true, false, false, false, false, false, false, false, false] rfl rfl (any_of HT_.out (by kernel_rfl)) (fun _ _ _ h => h) (Or.inl ⟨by rfl, ?_⟩) ?_ ?_
      rotate_left
      ·intro w'
       go_simp
       with_reducible rfl
      rotate_left
      ·simp only [Act.put, List.setIfInBounds_toArray, List.set_cons_zero, List.set_cons_succ, i64_w, i32_w]
       rfl
      refine pure_ (i := 1) (N := some 16) (v := ?_) (a' := ?_) #[true, true, false, false, false, false, false, false, false] rfl rfl (any_of HT_.out (by kernel_rfl)) (fun _ _ _ h => h) (Or.inl ⟨by rfl, ?_⟩) ?_ ?_
      rotate_left
      ·intro w'
       go_simp
       with_reducible rfl
      rotate_left
      ·simp only [Act.put, List.setIfInBounds_toArray, List.set_cons_zero, List.set_cons_succ, i64_w, i32_w]
       rfl
      refine pure_ (i := 4) (N := some 19) (v := ?_) (a' := ?_) #[true, true, false, false, true, false, false, false, false] rfl rfl (any_of HT_.out (by kernel_rfl)) (fun _ _ _ h => h) (Or.inl ⟨by rfl, ?_⟩) ?_ ?_
      rotate_left
      ·intro w'
       go_simp
       with_reducible rfl
      rotate_left
      ·simp only [Act.put, List.setIfInBounds_toArray, List.set_cons_zero, List.set_cons_succ, i64_w, i32_w]
       rfl
      refine pure_ (i := 5) (N := some 20) (v := ?_) (a' := ?_) #[true, true, false, false, true, true, false, false, false] rfl rfl (any_of HT_.out (by kernel_rfl)) (fun _ _ _ h => h) (Or.inl ⟨by rfl, ?_⟩) ?_ ?_
      rotate_left
      ·intro w'
       go_simp
       with_reducible rfl
      rotate_left
      ·simp only [Act.put, List.setIfInBounds_toArray, List.set_cons_zero, List.set_cons_succ, i64_w, i32_w]
       rfl
      refine join_ (σ := Value × Value × Value) 2 #[true, true, true, true, true, true, true, false, false] (fun s_ => [(17, s_.1), (18, s_.2.1), (21, s_.2.2)]) (fun s_ w' => (Kd.R (Kd.int .i64) 3 w' w.heap.size (fun k_ => some k_ ≠ (s_.2.1 : Value).ownBlock ∧ some k_ ≠ (s_.2.2 : Value).ownBlock) s_.1 y252) ∧ (Kd.R (Kd.int .i64) 3 w' w.heap.size (fun k_ => some k_ ≠ (s_.1 : Value).ownBlock ∧ some k_ ≠ (s_.2.2 : Value).ownBlock) s_.2.1 y255) ∧ (Kd.R (Kd.int .i64) 3 w' w.heap.size (fun k_ => some k_ ≠ (s_.1 : Value).ownBlock ∧ some k_ ≠ (s_.2.1 : Value).ownBlock) s_.2.2 t258) ∧ (Below w.heap.size w w')) ?_ ?_
      rotate_left
      ·intro hCont
       refine two_ (i := 2) (j := 3) (Ni := some 17) (Nj := some 18) #[true, true, true, false, true, true, false, false, false] #[true, true, false, true, true, true, false, false, false] rfl rfl rfl rfl (two_of HT_.out (by kernel_rfl)) (by decide) (by decide) (fun K hK => ?_) (fun K hK => ?_)
       ·skip
        refine Kd.R_make_step (Kd.int .i64) _ 3 (by rfl) (N := 17) rfl 22 _ _ rfl ji3 rfl rfl Try.underlying22 (.int .i64 0) 8 info3 rfl (by decide) (by omega) 0 (ok := fun _ => True) (okp := fun _ => True) rfl (fun _ hk => hk) trivial OD (Nat.le_trans (Nat.mul_le_mul_right _ (OD : ji3.toNat ≤ 35184372088832)) (by omega)) (Below.refl _ _) (Nat.le_refl _) ?_
        intro v253 w14 ho15 hb hg_ hnew_
        clear hg_ hnew_
        (first | rw [← Ny252.out] at ho15 | (simp only [Int.reduceToNat] at ho15; rw [← Ny252.out] at ho15))
        have n0_ := Aside0.mk (Kd.R_lower ho15 (below_size (BS HB.out)))
        have n1_ := Aside0.mk (below_step (BS HB.out) hb)
        clear HB
        have HO254 := n0_
        have HB := n1_
        clear n0_ n1_
        clear hb ho15
        refine hK.out _ _ trivial (fun hHeld => ?_)
        clear hK K
        refine norm_ (a' := ?_) ?_ ?_
        rotate_left
        ·show Act.put _ (some 17) _ = _
         simp only [Act.put, List.setIfInBounds_toArray, List.set_cons_zero, List.set_cons_succ, i64_w, i32_w]
         rfl
        refine one_ (i := 3) (N := some 18) #[true, true, true, true, true, true, false, false, false] rfl rfl (one_of HT_.out (by kernel_rfl)) (by decide) (fun K hK => ?_)
        refine Kd.R_lit_step (Kd.int .i64) _ 3 ?hg (N := 18) ?hd (xs := ([(-1)] : List Int)) (inner := [.int .i64 (-1)]) (ok := fun _ => True) (okp := fun _ => True) ?hr ?hp (fun _ hk => hk) trivial (Below.refl _ _) (Nat.le_refl _) (by simp) ?_; (case hd => rfl); (case hg => rfl); (case hr => first | (go_simp; done) | (go_simp; rfl)); (case hp => exact (Reps.one (show Kd.M (Kd.int .i64) _ _ _ (-1) [.int .i64 (-1)] from rfl) (Reps.none _ _)))
        intro v256 w16 ho17 hb hg_ hnew_
        clear hg_ hnew_
        (first | rw [← Ny255.out] at ho17 | (simp only [Int.reduceToNat] at ho17; rw [← Ny255.out] at ho17))
        have n0_ := Aside0.mk (Kd.R_elder' (RS HO254.out) (Kd.R_base ho17) hb)
        have n1_ := Aside0.mk (Kd.R_lower (Kd.R_new' ho17 (Kd.R_lt (RS HO254.out))) (below_size (BS HB.out)))
        have n2_ := Aside0.mk (below_step (BS HB.out) hb)
        clear HO254
        clear HB
        have HO254 := n0_
        have HO257 := n1_
        have HB := n2_
        clear n0_ n1_ n2_
        clear hb ho17
        obtain ⟨Ao18, co18, eo18⟩ := Kd.R_slice HO257.out
        (first | subst eo18 | (injection eo18 with f1_ f2_ f3_; have f4_ := f1_.symm; have f5_ := f3_.symm; clear f1_ f2_ f3_; subst f4_; subst f5_))
        refine hK.out _ _ trivial (fun hHeld => ?_)
        clear hK K
        refine norm_ (a' := ?_) ?_ ?_
        rotate_left
        ·show Act.put _ (some 18) _ = _
         simp only [Act.put, List.setIfInBounds_toArray, List.set_cons_zero, List.set_cons_succ, i64_w, i32_w]
         rfl
        refine one_ (i := 6) (N := some 21) #[true, true, true, true, true, true, true, false, false] rfl rfl (one_of HT_.out (by kernel_rfl)) (by decide) (fun K hK => ?_)
        refine goes_ Try.func79 (by kernel_rfl) rfl #[.slice Ao18 y255.length co18, .int .i64 ji3] (by rfl) rfl rfl (by (try simp only [List.map_toArray, List.map_cons, List.map_nil]); first | done | (simp only [hji3]; rfl) | rfl | (simp only [List.length_drop, List.length_take]; rfl)) ?_
        with_reducible refine (slices_Repeat_int_int.calls _ _ y255 ji3 t258 _ ?side1 ?side2 A6.out).mono ?_
        (case side1 => exact CS (Kd.R_reads' HO257.out).2.2)
        (case side2 => exact (Kd.R_reads' HO257.out).2.1)
        rintro e w19 ⟨v259, rfl, ho0, hb⟩
        refine ⟨_, rfl, ?_⟩
        have n0_ := Aside0.mk (Kd.R_elder' (RS HO254.out) (Kd.R_base ho0) hb)
        have n1_ := Aside0.mk (Kd.R_elder' (RS HO257.out) (Kd.R_base ho0) hb)
        have n2_ := Aside0.mk (Kd.R_lower (Kd.R_new' (Kd.R_new' ho0 (Kd.R_lt (RS HO254.out))) (Kd.R_lt (RS HO257.out))) (below_size (BS HB.out)))
        have n3_ := Aside0.mk (below_step (BS HB.out) hb)
        clear HO254
        clear HO257
        clear HB
        have HO254 := n0_
        have HO257 := n1_
        have HO260 := n2_
        have HB := n3_
        clear n0_ n1_ n2_ n3_
        (try clear hb)
        (try clear hb2)
        (try clear hk)
        (try clear hi)
        (try clear ho0)
        refine hK.out _ _ trivial (fun hHeld => ?_)
        clear hK K
        refine norm_ (a' := ?_) ?_ ?_
        rotate_left
        ·show Act.put _ (some 21) _ = _
         simp only [Act.put, List.setIfInBounds_toArray, List.set_cons_zero, List.set_cons_succ, i64_w, i32_w]
         rfl
        exact norm_ (by simp only [putAll, Act.put, List.setIfInBounds_toArray, List.set_cons_zero, List.set_cons_succ]) (hCont (v253, .slice Ao18 y255.length co18, v259) _ ⟨(RS (Kd.R_mono HO254.out (fun _ hk => ⟨hk.1.2, hk.2⟩))), (RS (Kd.R_mono HO257.out (fun _ hk => ⟨hk.1.2, hk.2⟩))), (RS (Kd.R_mono HO260.out (fun _ hk => ⟨hk.1.2, hk.2⟩))), (BS HB.out)⟩)
       ·skip
        refine Kd.R_lit_step (Kd.int .i64) _ 3 ?hg (N := 18) ?hd (xs := ([(-1)] : List Int)) (inner := [.int .i64 (-1)]) (ok := fun _ => True) (okp := fun _ => True) ?hr ?hp (fun _ hk => hk) trivial (Below.refl _ _) (Nat.le_refl _) (by simp) ?_; (case hd => rfl); (case hg => rfl); (case hr => first | (go_simp; done) | (go_simp; rfl)); (case hp => exact (Reps.one (show Kd.M (Kd.int .i64) _ _ _ (-1) [.int .i64 (-1)] from rfl) (Reps.none _ _)))
        intro v256 w14 ho15 hb hg_ hnew_
        clear hg_ hnew_
        (first | rw [← Ny255.out] at ho15 | (simp only [Int.reduceToNat] at ho15; rw [← Ny255.out] at ho15))
        have n0_ := Aside0.mk (Kd.R_lower ho15 (below_size (BS HB.out)))
        have n1_ := Aside0.mk (below_step (BS HB.out) hb)
        clear HB
        have HO257 := n0_
        have HB := n1_
        clear n0_ n1_
        clear hb ho15
        refine hK.out _ _ trivial (fun hHeld => ?_)
        clear hK K
        refine norm_ (a' := ?_) ?_ ?_
        rotate_left
        ·show Act.put _ (some 18) _ = _
         simp only [Act.put, List.setIfInBounds_toArray, List.set_cons_zero, List.set_cons_succ, i64_w, i32_w]
         rfl
        refine two_ (i := 2) (j := 6) (Ni := some 17) (Nj := some 21) #[true, true, true, true, true, true, false, false, false] #[true, true, false, true, true, true, true, false, false] rfl rfl rfl rfl (two_of HT_.out (by kernel_rfl)) (by decide) (by decide) (fun K hK => ?_) (fun K hK => ?_)
        ·skip
         refine Kd.R_make_step (Kd.int .i64) _ 3 (by rfl) (N := 17) rfl 22 _ _ rfl ji3 rfl rfl Try.underlying22 (.int .i64 0) 8 info3 rfl (by decide) (by omega) 0 (ok := fun _ => True) (okp := fun _ => True) rfl (fun _ hk => hk) trivial OD (Nat.le_trans (Nat.mul_le_mul_right _ (OD : ji3.toNat ≤ 35184372088832)) (by omega)) (Below.refl _ _) (Nat.le_refl _) ?_
         intro v253 w16 ho17 hb hg_ hnew_
         clear hg_ hnew_
         (first | rw [← Ny252.out] at ho17 | (simp only [Int.reduceToNat] at ho17; rw [← Ny252.out] at ho17))
         have n0_ := Aside0.mk (Kd.R_elder' (RS HO257.out) (Kd.R_base ho17) hb)
         have n1_ := Aside0.mk (Kd.R_lower (Kd.R_new' ho17 (Kd.R_lt (RS HO257.out))) (below_size (BS HB.out)))
         have n2_ := Aside0.mk (below_step (BS HB.out) hb)
         clear HO257
         clear HB
         have HO257 := n0_
         have HO254 := n1_
         have HB := n2_
         clear n0_ n1_ n2_
         clear hb ho17
         obtain ⟨Ao18, co18, eo18⟩ := Kd.R_slice HO257.out
         (first | subst eo18 | (injection eo18 with f1_ f2_ f3_; have f4_ := f1_.symm; have f5_ := f3_.symm; clear f1_ f2_ f3_; subst f4_; subst f5_))
         refine hK.out _ _ trivial (fun hHeld => ?_)
         clear hK K
         refine norm_ (a' := ?_) ?_ ?_
         rotate_left
         ·show Act.put _ (some 17) _ = _
          simp only [Act.put, List.setIfInBounds_toArray, List.set_cons_zero, List.set_cons_succ, i64_w, i32_w]
          rfl
         refine one_ (i := 6) (N := some 21) #[true, true, true, true, true, true, true, false, false] rfl rfl (one_of HT_.out (by kernel_rfl)) (by decide) (fun K hK => ?_)
         refine goes_ Try.func79 (by kernel_rfl) rfl #[.slice Ao18 y255.length co18, .int .i64 ji3] (by rfl) rfl rfl (by (try simp only [List.map_toArray, List.map_cons, List.map_nil]); first | done | (simp only [hji3]; rfl) | rfl | (simp only [List.length_drop, List.length_take]; rfl)) ?_
         with_reducible refine (slices_Repeat_int_int.calls _ _ y255 ji3 t258 _ ?side1 ?side2 A6.out).mono ?_
         (case side1 => exact CS (Kd.R_reads' HO257.out).2.2)
         (case side2 => exact (Kd.R_reads' HO257.out).2.1)
         rintro e w19 ⟨v259, rfl, ho0, hb⟩
         refine ⟨_, rfl, ?_⟩
         have n0_ := Aside0.mk (Kd.R_elder' (RS HO257.out) (Kd.R_base ho0) hb)
         have n1_ := Aside0.mk (Kd.R_elder' (RS HO254.out) (Kd.R_base ho0) hb)
         have n2_ := Aside0.mk (Kd.R_lower (Kd.R_new' (Kd.R_new' ho0 (Kd.R_lt (RS HO257.out))) (Kd.R_lt (RS HO254.out))) (below_size (BS HB.out)))
         have n3_ := Aside0.mk (below_step (BS HB.out) hb)
         clear HO257
         clear HO254
         clear HB
         have HO257 := n0_
         have HO254 := n1_
         have HO260 := n2_
         have HB := n3_
         clear n0_ n1_ n2_ n3_
         (try clear hb)
         (try clear hb2)
         (try clear hk)
         (try clear hi)
         (try clear ho0)
         refine hK.out _ _ trivial (fun hHeld => ?_)
         clear hK K
         refine norm_ (a' := ?_) ?_ ?_
         rotate_left
         ·show Act.put _ (some 21) _ = _
          simp only [Act.put, List.setIfInBounds_toArray, List.set_cons_zero, List.set_cons_succ, i64_w, i32_w]
          rfl
         exact norm_ (by simp only [putAll, Act.put, List.setIfInBounds_toArray, List.set_cons_zero, List.set_cons_succ]) (hCont (v253, .slice Ao18 y255.length co18, v259) _ ⟨(RS (Kd.R_mono HO254.out (fun _ hk => ⟨hk.1.2, hk.2⟩))), (RS (Kd.R_mono HO257.out (fun _ hk => ⟨hk.1.2, hk.2⟩))), (RS (Kd.R_mono HO260.out (fun _ hk => ⟨hk.2, hk.1.2⟩))), (BS HB.out)⟩)
        ·skip
         obtain ⟨Ao16, co16, eo16⟩ := Kd.R_slice HO257.out
         (first | subst eo16 | (injection eo16 with f1_ f2_ f3_; have f4_ := f1_.symm; have f5_ := f3_.symm; clear f1_ f2_ f3_; subst f4_; subst f5_))
         refine goes_ Try.func79 (by kernel_rfl) rfl #[.slice Ao16 y255.length co16, .int .i64 ji3] (by rfl) rfl rfl (by (try simp only [List.map_toArray, List.map_cons, List.map_nil]); first | done | (simp only [hji3]; rfl) | rfl | (simp only [List.length_drop, List.length_take]; rfl)) ?_
         with_reducible refine (slices_Repeat_int_int.calls _ _ y255 ji3 t258 _ ?side1 ?side2 A6.out).mono ?_
         (case side1 => exact CS (Kd.R_reads' HO257.out).2.2)
         (case side2 => exact (Kd.R_reads' HO257.out).2.1)
         rintro e w17 ⟨v259, rfl, ho0, hb⟩
         refine ⟨_, rfl, ?_⟩
         have n0_ := Aside0.mk (Kd.R_elder' (RS HO257.out) (Kd.R_base ho0) hb)
         have n1_ := Aside0.mk (Kd.R_lower (Kd.R_new' ho0 (Kd.R_lt (RS HO257.out))) (below_size (BS HB.out)))
         have n2_ := Aside0.mk (below_step (BS HB.out) hb)
         clear HO257
         clear HB
         have HO257 := n0_
         have HO260 := n1_
         have HB := n2_
         clear n0_ n1_ n2_
         (try clear hb)
         (try clear hb2)
         (try clear hk)
         (try clear hi)
         (try clear ho0)
         refine hK.out _ _ trivial (fun hHeld => ?_)
         clear hK K
         refine norm_ (a' := ?_) ?_ ?_
         rotate_left
         ·show Act.put _ (some 21) _ = _
          simp only [Act.put, List.setIfInBounds_toArray, List.set_cons_zero, List.set_cons_succ, i64_w, i32_w]
          rfl
         refine one_ (i := 2) (N := some 17) #[true, true, true, true, true, true, true, false, false] rfl rfl (one_of HT_.out (by kernel_rfl)) (by decide) (fun K hK => ?_)
         refine Kd.R_make_step (Kd.int .i64) _ 3 (by rfl) (N := 17) rfl 22 _ _ rfl ji3 rfl rfl Try.underlying22 (.int .i64 0) 8 info3 rfl (by decide) (by omega) 0 (ok := fun _ => True) (okp := fun _ => True) rfl (fun _ hk => hk) trivial OD (Nat.le_trans (Nat.mul_le_mul_right _ (OD : ji3.toNat ≤ 35184372088832)) (by omega)) (Below.refl _ _) (Nat.le_refl _) ?_
         intro v253 w18 ho19 hb hg_ hnew_
         clear hg_ hnew_
         (first | rw [← Ny252.out] at ho19 | (simp only [Int.reduceToNat] at ho19; rw [← Ny252.out] at ho19))
         have n0_ := Aside0.mk (Kd.R_elder' (RS HO257.out) (Kd.R_base ho19) hb)
         have n1_ := Aside0.mk (Kd.R_elder' (RS HO260.out) (Kd.R_base ho19) hb)
         have n2_ := Aside0.mk (Kd.R_lower (Kd.R_new' (Kd.R_new' ho19 (Kd.R_lt (RS HO257.out))) (Kd.R_lt (RS HO260.out))) (below_size (BS HB.out)))
         have n3_ := Aside0.mk (below_step (BS HB.out) hb)
         clear HO257
         clear HO260
         clear HB
         have HO257 := n0_
         have HO260 := n1_
         have HO254 := n2_
         have HB := n3_
         clear n0_ n1_ n2_ n3_
         clear hb ho19
         refine hK.out _ _ trivial (fun hHeld => ?_)
         clear hK K
         refine norm_ (a' := ?_) ?_ ?_
         rotate_left
         ·show Act.put _ (some 17) _ = _
          simp only [Act.put, List.setIfInBounds_toArray, List.set_cons_zero, List.set_cons_succ, i64_w, i32_w]
          rfl
         exact norm_ (by simp only [putAll, Act.put, List.setIfInBounds_toArray, List.set_cons_zero, List.set_cons_succ]) (hCont (v253, .slice Ao16 y255.length co16, v259) _ ⟨(RS (Kd.R_mono HO254.out (fun _ hk => ⟨hk.1.2, hk.2⟩))), (RS (Kd.R_mono HO257.out (fun _ hk => ⟨hk.2, hk.1.2⟩))), (RS (Kd.R_mono HO260.out (fun _ hk => ⟨hk.2, hk.1.2⟩))), (BS HB.out)⟩)
      rintro ⟨v253, v256, v259⟩ w20 ⟨h0_, h1_, h2_, h3_⟩
      have n0_ : Aside0 (Kd.R (Kd.int .i64) 3 w20 w.heap.size (fun k_ => some k_ ≠ (v256 : Value).ownBlock ∧ some k_ ≠ (v259 : Value).ownBlock) v253 y252) := ⟨h0_⟩
      have n1_ : Aside0 (Kd.R (Kd.int .i64) 3 w20 w.heap.size (fun k_ => some k_ ≠ (v253 : Value).ownBlock ∧ some k_ ≠ (v259 : Value).ownBlock) v256 y255) := ⟨h1_⟩
      have n2_ : Aside0 (Kd.R (Kd.int .i64) 3 w20 w.heap.size (fun k_ => some k_ ≠ (v253 : Value).ownBlock ∧ some k_ ≠ (v256 : Value).ownBlock) v259 t258) := ⟨h2_⟩
      have n3_ : Aside0 (Below w.heap.size w w20) := ⟨h3_⟩
      clear HB
      clear h0_ h1_ h2_ h3_
      have HO254 := n0_
      have HO257 := n1_
      have HO260 := n2_
      have HB := n3_
      clear n0_ n1_ n2_ n3_
      have hHeld := trivial
      refine norm_ (a' := ?_) ?_ ?_
      rotate_left
      ·simp only [putAll, Act.put, List.setIfInBounds_toArray, List.set_cons_zero, List.set_cons_succ]
       rfl
      refine pure_ (i := 7) (N := some 7) (v := ?_) (a' := ?_) #[true, true, true, true, true, true, true, true, false] rfl rfl (any_of HT_.out (by kernel_rfl)) (fun _ _ _ h => h) (Or.inl ⟨by rfl, ?_⟩) ?_ ?_
      rotate_left
      ·intro w'
       go_simp
       with_reducible rfl
      rotate_left
      ·simp only [Act.put, List.setIfInBounds_toArray, List.set_cons_zero, List.set_cons_succ, i64_w, i32_w]
       rfl
      refine pure_ (i := 8) (N := some 8) (v := ?_) (a' := ?_) #[true, true, true, true, true, true, true, true, true] rfl rfl (any_of HT_.out (by kernel_rfl)) (fun _ _ _ h => h) (Or.inl ⟨by rfl, ?_⟩) ?_ ?_
      rotate_left
      ·intro w'
       go_simp
       with_reducible rfl
      rotate_left
      ·simp only [Act.put, List.setIfInBounds_toArray, List.set_cons_zero, List.set_cons_succ, i64_w, i32_w]
       rfl
      refine done_ (done_of HT_.out (by kernel_rfl)) ?_
      have p10 : 0 ≤ ((ji7) : Int) := OD
      have q10 : ((ji7) : Int) < ((y252.length : Int) : Int) := OD
      obtain ⟨go10, co10, eo10, gb10, gl10, cl10, HG10⟩ := Kd.R_form HO254.out (by omega)
      (first | cases eo10 | (injection eo10 with ea_ en_ ec_; (first | subst ea_ | (injection ea_ with ea_; subst ea_)); subst ec_; clear en_))
      have GB10 := Aside0.mk gb10
      have GG10 := Aside0.mk HG10
      clear gb10 gl10 HG10
      obtain ⟨hx10_0, hf10_0⟩ := Kd.R_celln 0 HO254.out ((ji7) : Int) p10 q10
      replace p10 := eq_true p10
      replace q10 := eq_true q10
      obtain ⟨hy21_, hz21_⟩ := Kd.R_celln 0 HO254.out ((ji7) : Int) OD OD
      have HP21 := Kd.R_putg HO254.out ((ji7) : Int) 1
      try go_wp2_with (first | ((with_reducible refine gate_store (t := 3) (p := 26) rfl ?_); refine store_event (t := 3) (p := 26) (v := ?vo_w22) (w1 := (w20.setCell ⟨go10, ((ji7) : Int).toNat, none⟩ (.int .i64 1))) ?hg ?ho ?hn ?hr ?_; (case ho => rfl); (case hg => rfl); (case hn => rfl); (case hr => first | (go_simp; done) | (go_simp; rfl)); intro w22 hw; have hg : w20.grownBy w22 (some go10) := (by rw [hw]; exact HP21.2); have hp_ : Kd.R (Kd.int .i64) 3 w22 w.heap.size (fun k_ => some k_ ≠ (v256 : Value).ownBlock ∧ some k_ ≠ (v259 : Value).ownBlock) (.slice (some ⟨go10, 0, none⟩) y252.length co10) y261 := (by rw [hw, Ny261.out]; exact HP21.1); clear HP21; have n0_ := Aside0.mk (hp_); have n1_ := Aside0.mk (Kd.R_after (v := (.slice (some ⟨go10, 0, none⟩) y252.length co10)) (v1 := (.slice (some ⟨go10, 0, none⟩) y252.length co10)) (ok := (fun k_ => some k_ ≠ (v259 : Value).ownBlock)) (RS (Kd.R_mono HO257.out (fun _ hk => ⟨hk.2, hk.1⟩))) hg (.inl rfl)); have n2_ := Aside0.mk (Kd.R_after (v := (.slice (some ⟨go10, 0, none⟩) y252.length co10)) (v1 := (.slice (some ⟨go10, 0, none⟩) y252.length co10)) (ok := (fun k_ => some k_ ≠ (v256 : Value).ownBlock)) (RS (Kd.R_mono HO260.out (fun _ hk => ⟨hk.2, hk.1⟩))) hg (.inl rfl)); have n3_ := Aside0.mk ((by rw [hw]; exact below_set (HB.out) GB10.out : Below w.heap.size w w22)); clear HO254; clear HO257; clear HO260; clear HB; have HO254 := n0_; have HO257 := n1_; have HO260 := n2_; have HB := n3_; clear n0_ n1_ n2_ n3_; clear hg hw hp_; have p12 : 0 ≤ ((ji7) : Int) := OD; have q12 : ((ji7) : Int) < ((t258.length : Int) : Int) := OD; obtain ⟨go12, co12, eo12, gb12, gl12, cl12, HG12⟩ := Kd.R_form HO260.out (by omega); (first | cases eo12 | (injection eo12 with ea_ en_ ec_; (first | subst ea_ | (injection ea_ with ea_; subst ea_)); subst ec_; clear en_)); have GB12 := Aside0.mk gb12; have GG12 := Aside0.mk HG12; clear gb12 gl12 HG12; obtain ⟨hx12_0, hf12_0⟩ := Kd.R_celln 0 HO260.out ((ji7) : Int) p12 q12; replace p12 := eq_true p12; replace q12 := eq_true q12; obtain ⟨hy23_, hz23_⟩ := Kd.R_celln 0 HO260.out ((ji7) : Int) OD OD; have HP23 := Kd.R_putg HO260.out ((ji7) : Int) 0) | ((with_reducible refine gate_store (t := 3) (p := 27) rfl ?_); refine store_event (t := 3) (p := 27) (v := ?vo_w24) (w1 := (w22.setCell ⟨go12, ((ji7) : Int).toNat, none⟩ (.int .i64 0))) ?hg ?ho ?hn ?hr ?_; (case ho => rfl); (case hg => rfl); (case hn => rfl); (case hr => first | (go_simp; done) | (go_simp; rfl)); intro w24 hw; have hg : w22.grownBy w24 (some go12) := (by rw [hw]; exact HP23.2); have hp_ : Kd.R (Kd.int .i64) 3 w24 w.heap.size (fun k_ => some k_ ≠ (v256 : Value).ownBlock ∧ some k_ ≠ (.slice (some ⟨go10, 0, none⟩) y252.length co10 : Value).ownBlock) (.slice (some ⟨go12, 0, none⟩) t258.length co12) y262 := (by rw [hw, Ny262.out]; exact HP23.1); clear HP23; have n0_ := Aside0.mk (Kd.R_after (v := (.slice (some ⟨go12, 0, none⟩) t258.length co12)) (v1 := (.slice (some ⟨go12, 0, none⟩) t258.length co12)) (ok := (fun k_ => some k_ ≠ (v256 : Value).ownBlock)) (RS HO254.out) hg (.inl rfl)); have n1_ := Aside0.mk (Kd.R_after (v := (.slice (some ⟨go12, 0, none⟩) t258.length co12)) (v1 := (.slice (some ⟨go12, 0, none⟩) t258.length co12)) (ok := (fun k_ => some k_ ≠ (.slice (some ⟨go10, 0, none⟩) y252.length co10 : Value).ownBlock)) (RS (Kd.R_mono HO257.out (fun _ hk => ⟨hk.2, hk.1⟩))) hg (.inl rfl)); have n2_ := Aside0.mk (hp_); have n3_ := Aside0.mk ((by rw [hw]; exact below_set (HB.out) GB12.out : Below w.heap.size w w24)); clear HO254; clear HO257; clear HO260; clear HB; have HO254 := n0_; have HO257 := n1_; have HO260 := n2_; have HB := n3_; clear n0_ n1_ n2_ n3_; clear hg hw hp_))
      go_loopg [9] k (fun kq v9 w' => ∃ (x7_1 : List Int) (x8_1 : List Int) (x9_1 : Int), v9 = .int .i64 x9_1 ∧ Aside0 (impl_ways.l0 kq l0 a1 ji7 x7_1 x8_1 x9_1 = some (r1, r2)) ∧ Aside0 (kq ≤ k) ∧ Aside0 (Kd.R (Kd.int .i64) 3 w' w.heap.size (fun k_ => some k_ ≠ ((.slice (some ⟨go12, 0, none⟩) t258.length co12) : Value).ownBlock) (.slice (some ⟨go10, 0, none⟩) y252.length co10) x7_1) ∧ Aside0 (Kd.R (Kd.int .i64) 3 w' w.heap.size (fun k_ => some k_ ≠ ((.slice (some ⟨go10, 0, none⟩) y252.length co10) : Value).ownBlock) (.slice (some ⟨go12, 0, none⟩) t258.length co12) x8_1) ∧ Aside0 (Below w.heap.size w w'))
      case atStart => exact ⟨(y261), (y262), (wrap64 ((ji7) - 1)), (by first | rfl | (simp; done) | (simp only [← hji7] <;> (first | rfl | simp)) | (simp [*]; done)), H', ⟨Nat.le_refl _⟩, ⟨RS (Kd.R_mono HO254.out (fun _ hk => hk.2))⟩, ⟨RS (Kd.R_mono HO260.out (fun _ hk => hk.2))⟩, ⟨BS HB.out⟩⟩
      case round =>
       clear H'
       (try clear c1); (try clear p1); (try clear q1); (try clear hx1); (try clear p2); (try clear c4); (try clear c4b0); (try clear c4b1); (try clear c5); (try clear c5b0); (try clear c5b1); (try clear p6); (try clear c7); (try clear c8); (try clear c8b0); (try clear c9); (try clear c9b0); (try clear p10); (try clear q10); (try clear hx10); (try clear hf10); (try clear c11); (try clear c11b0); (try clear p12); (try clear q12); (try clear hx12); (try clear hf12); (try clear hx10_0); (try clear hx12_0)
       obtain ⟨x7_1, x8_1, x9_1, rfl, HA, HK1, HO_7, HO_8, HB⟩ := hrel
       have hl7_1 := (Kd.R_reads' HO_7.out).1
       rw [hl7_1] at HO_7
       (try simp only [hl7_1])
       (try simp only [hl7_1] at HO_8)
       have hl8_1 := (Kd.R_reads' HO_8.out).1
       rw [hl8_1] at HO_8
       (try simp only [hl8_1])
       (try simp only [hl8_1] at HO_7)
       cases gk with
       | zero => exact absurd HA.out (by simp [impl_ways.l0])
       | succ k1 =>
        have H := HA.out
        clear HA
        simp only [impl_ways.l0] at H
        by_cases c25 : x9_1 ≥ 0
        ·rw [if_pos c25] at H
         have c25b0 : decide (0 ≤ x9_1) = true := decide_eq_true c25
         clear c25
         have H' := Aside0.mk H
         clear H
         go_wp2
         go_loopg [10] k1 (fun kq v10 w' => ∃ (x7_2 : List Int) (x8_2 : List Int) (x10_2 : Int), v10 = .int .i64 x10_2 ∧ Aside0 (impl_ways.l1 kq l0 a1 ji7 x7_2 x8_2 x9_1 x10_2 = some (r1, r2)) ∧ Aside0 (kq ≤ k1) ∧ Aside0 (Kd.R (Kd.int .i64) 3 w' w.heap.size (fun k_ => some k_ ≠ ((.slice (some ⟨go12, 0, none⟩) x8_1.length co12) : Value).ownBlock) (.slice (some ⟨go10, 0, none⟩) x7_1.length co10) x7_2) ∧ Aside0 (Kd.R (Kd.int .i64) 3 w' w.heap.size (fun k_ => some k_ ≠ ((.slice (some ⟨go10, 0, none⟩) x7_1.length co10) : Value).ownBlock) (.slice (some ⟨go12, 0, none⟩) x8_1.length co12) x8_2) ∧ Aside0 (Below w.heap.size w w'))
         case atStart => exact ⟨(x7_1), (x8_1), (wrap64 (x9_1 + 1)), Za, H', ⟨Nat.le_refl _⟩, ⟨by (try simp only [hl7_1]); (try simp only [hl8_1]); (with_reducible repeat (first | apply Kd.R_alloc | apply Kd.R_drewN | apply Kd.R_drew)); exact HO_7.out⟩, ⟨by (try simp only [hl7_1]); (try simp only [hl8_1]); (with_reducible repeat (first | apply Kd.R_alloc | apply Kd.R_drewN | apply Kd.R_drew)); exact HO_8.out⟩, ⟨BS HB.out⟩⟩
         case round =>
          clear H'
          (try clear c2); (try clear c25); (try clear c25b0)
          obtain ⟨x7_2, x8_2, x10_2, rfl, HA, HK2, HO_7, HO_8, HB⟩ := hrel
          have hl7_2 := (Kd.R_reads' HO_7.out).1
          rw [hl7_2] at HO_7
          (try simp only [hl7_2])
          (try simp only [hl7_2] at HO_8)
          have hl8_2 := (Kd.R_reads' HO_8.out).1
          rw [hl8_2] at HO_8
          (try simp only [hl8_2])
          (try simp only [hl8_2] at HO_7)
          cases gk with
          | zero => exact absurd HA.out (by simp [impl_ways.l1])
          | succ k2 =>
           have H := HA.out
           clear HA
           simp only [impl_ways.l1] at H
           obtain ⟨ji26, hji26⟩ : ∃ j_ : Int, (mn (wrap64 (x9_1 + a1)) ji7) = j_ := ⟨_, rfl⟩
           replace H : (if x10_2 ≤ (ji26) then (if 0 ≤ x10_2 then (if x10_2 < (x8_2.length : Int) then (if (rd x8_2 x10_2) < 0 then (impl_ways.l1 k2 l0 a1 ji7 x7_2 x8_2 x9_1 (wrap64 (x10_2 + 1))) else (if x10_2 = ji7 then (if 0 ≤ x9_1 then (if x9_1 < (x7_2.length : Int) then (if x10_2 < (x7_2.length : Int) then ((some (x7_2.set (x9_1 : Int).toNat (wrap64 ((rd x7_2 x9_1) + (rd x7_2 x10_2))) : List Int)).bind fun y270 => (if x9_1 < (x8_2.length : Int) then (if (rd x8_2 x9_1) < 0 then (impl_ways.l1 k2 l0 a1 ji7 y270 (x8_2.set (x9_1 : Int).toNat 0) x9_1 (wrap64 (x10_2 + 1))) else (if 0 < (rd x8_2 x9_1) then (impl_ways.l1 k2 l0 a1 ji7 y270 (x8_2.set (x9_1 : Int).toNat 0) x9_1 (wrap64 (x10_2 + 1))) else (impl_ways.l1 k2 l0 a1 ji7 y270 x8_2 x9_1 (wrap64 (x10_2 + 1))))) else (none))) else (none)) else (none)) else (none)) else (if 0 ≤ x9_1 then (if x9_1 < (x7_2.length : Int) then (if x10_2 < (x7_2.length : Int) then ((some (x7_2.set (x9_1 : Int).toNat (wrap64 ((rd x7_2 x9_1) + (rd x7_2 x10_2))) : List Int)).bind fun y277 => (if x9_1 < (x8_2.length : Int) then (if (rd x8_2 x9_1) < 0 then (impl_ways.l1 k2 l0 a1 ji7 y277 (x8_2.set (x9_1 : Int).toNat (wrap64 ((rd x8_2 x10_2) + 1))) x9_1 (wrap64 (x10_2 + 1))) else (if (wrap64 ((rd x8_2 x10_2) + 1)) < (rd x8_2 x9_1) then (impl_ways.l1 k2 l0 a1 ji7 y277 (x8_2.set (x9_1 : Int).toNat (wrap64 ((rd x8_2 x10_2) + 1))) x9_1 (wrap64 (x10_2 + 1))) else (impl_ways.l1 k2 l0 a1 ji7 y277 x8_2 x9_1 (wrap64 (x10_2 + 1))))) else (none))) else (none)) else (none)) else (none)))) else (none)) else (none)) else (if x9_1 > 0 then (if 0 ≤ (wrap64 (x9_1 - 1)) then (if (wrap64 (x9_1 - 1)) < (l0.length : Int) then (if (rd l0 (wrap64 (x9_1 - 1))) = 0 then (if 0 ≤ x9_1 then (if x9_1 < (x7_2.length : Int) then (if x9_1 < (x8_2.length : Int) then (impl_ways.l0 k2 l0 a1 ji7 (x7_2.set (x9_1 : Int).toNat 0) (x8_2.set (x9_1 : Int).toNat (-1)) (wrap64 (x9_1 - 1))) else (none)) else (none)) else (none)) else (impl_ways.l0 k2 l0 a1 ji7 x7_2 x8_2 (wrap64 (x9_1 - 1)))) else (none)) else (none)) else (impl_ways.l0 k2 l0 a1 ji7 x7_2 x8_2 (wrap64 (x9_1 - 1))))) = some (r1, r2) := by first | (rw [hji26] at H; exact H) | (simp only [hji26] at H ⊢; exact H)
           have hji26_ : (if ji7 < (wrap64 (x9_1 + a1)) then ji7 else (wrap64 (x9_1 + a1))) = ji26 := hji26
           by_cases c27 : x10_2 ≤ (ji26)
           ·rw [if_pos c27] at H
            have c27b0 : decide (x10_2 ≤ (ji26)) = true := decide_eq_true c27
            clear c27
            by_cases c28 : 0 ≤ x10_2
            ·rw [if_pos c28] at H
             have c28b0 : decide (0 ≤ x10_2) = true := decide_eq_true c28
             clear c28
             by_cases c29 : x10_2 < (x8_2.length : Int)
             ·rw [if_pos c29] at H
              have c29b0 : decide (x10_2 < (x8_2.length : Int)) = true := decide_eq_true c29
              clear c29
              by_cases c30 : (rd x8_2 x10_2) < 0
              ·rw [if_pos c30] at H
               have c30b0 : decide ((rd x8_2 x10_2) < 0) = true := decide_eq_true c30
               clear c30
               have H' := Aside0.mk H
               clear H
               have p266 : 0 ≤ (x10_2 : Int) := OD
               have q266 : x10_2 < (x8_2.length : Int) := OD
               obtain ⟨ad266, e266, hx266_0⟩ := Kd.at_int (Kd.R_reads' HO_8.out).2.2 x10_2 p266 q266
               obtain rfl : (⟨go12, 0, none⟩ : Addr) = ad266 := (by injection e266)
               (first | simp only [add_plain] at hx266_0 | simp only [add_at] at hx266_0 | simp only [Addr.add, Nat.zero_add] at hx266_0 | skip)
               replace p266 := eq_true p266
               replace q266 := eq_true q266
               go_wp2
               (try simp only [← hl7_2, ← hl8_2])
               go_roundg k2
               case measure => have := HK1.out; have := HK2.out; omega
               case rel => exact ⟨(x7_2), (x8_2), (wrap64 (x10_2 + 1)), Za, H', ⟨by have := HK1.out; have := HK2.out; omega⟩, ⟨by (try simp only [hl7_1]); (try simp only [hl8_1]); (try simp only [hl7_2]); (try simp only [hl8_2]); (with_reducible repeat (first | apply Kd.R_alloc | apply Kd.R_drewN | apply Kd.R_drew)); exact HO_7.out⟩, ⟨by (try simp only [hl7_1]); (try simp only [hl8_1]); (try simp only [hl7_2]); (try simp only [hl8_2]); (with_reducible repeat (first | apply Kd.R_alloc | apply Kd.R_drewN | apply Kd.R_drew)); exact HO_8.out⟩, ⟨BS HB.out⟩⟩
              ·rw [if_neg c30] at H
               have c30b0 : decide ((rd x8_2 x10_2) < 0) = false := decide_eq_false c30
               clear c30
               by_cases c31 : x10_2 = ji7
               ·rw [if_pos c31] at H
                have c31b0 : (x10_2 == ji7) = true := beq_iff_eq.mpr c31
                have c31b1 : (x10_2 != ji7) = false := bne_eq_false_iff_eq.mpr c31
                clear c31
                by_cases c32 : 0 ≤ x9_1
                ·rw [if_pos c32] at H
                 have c32b0 : decide (0 ≤ x9_1) = true := decide_eq_true c32
                 clear c32
                 by_cases c33 : x9_1 < (x7_2.length : Int)
                 ·rw [if_pos c33] at H
                  have c33b0 : decide (x9_1 < (x7_2.length : Int)) = true := decide_eq_true c33
                  clear c33
                  by_cases c34 : x10_2 < (x7_2.length : Int)
                  ·rw [if_pos c34] at H
                   have c34b0 : decide (x10_2 < (x7_2.length : Int)) = true := decide_eq_true c34
                   clear c34
                   obtain ⟨y270, hy270⟩ : ∃ y_ : List Int, y_ = (x7_2.set (x9_1 : Int).toNat (wrap64 ((rd x7_2 x9_1) + (rd x7_2 x10_2)))) := ⟨_, rfl⟩
                   replace H : (if x9_1 < (x8_2.length : Int) then (if (rd x8_2 x9_1) < 0 then (impl_ways.l1 k2 l0 a1 ji7 y270 (x8_2.set (x9_1 : Int).toNat 0) x9_1 (wrap64 (x10_2 + 1))) else (if 0 < (rd x8_2 x9_1) then (impl_ways.l1 k2 l0 a1 ji7 y270 (x8_2.set (x9_1 : Int).toNat 0) x9_1 (wrap64 (x10_2 + 1))) else (impl_ways.l1 k2 l0 a1 ji7 y270 x8_2 x9_1 (wrap64 (x10_2 + 1))))) else (none)) = some (r1, r2) := by first | (rw [hy270]; with_reducible exact H) | (have H2_ := (Option.bind_some _ _).symm.trans H; rw [hy270]; with_reducible exact H2_) | (have H2_ := (Option.bind_some _ _).symm.trans H; with_reducible exact H2_) | with_reducible exact H | (rw [hy270]; exact H) | exact H
                   have Ny270 := Aside0.mk hy270
                   clear hy270
                   by_cases c36 : x9_1 < (x8_2.length : Int)
                   ·rw [if_pos c36] at H
                    have c36b0 : decide (x9_1 < (x8_2.length : Int)) = true := decide_eq_true c36
                    clear c36
                    by_cases c37 : (rd x8_2 x9_1) < 0
                    ·rw [if_pos c37] at H
                     have c37b0 : decide ((rd x8_2 x9_1) < 0) = true := decide_eq_true c37
                     clear c37
                     obtain ⟨y272, hy272⟩ : ∃ y_ : List Int, y_ = (x8_2.set (x9_1 : Int).toNat 0) := ⟨_, rfl⟩
                     replace H : (impl_ways.l1 k2 l0 a1 ji7 y270 y272 x9_1 (wrap64 (x10_2 + 1))) = some (r1, r2) := by first | (rw [hy272]; with_reducible exact H) | (have H2_ := (Option.bind_some _ _).symm.trans H; rw [hy272]; with_reducible exact H2_) | (have H2_ := (Option.bind_some _ _).symm.trans H; with_reducible exact H2_) | with_reducible exact H | (rw [hy272]; exact H) | exact H
                     have Ny272 := Aside0.mk hy272
                     clear hy272
                     have H' := Aside0.mk H
                     clear H
                     have p266 : 0 ≤ (x10_2 : Int) := OD
                     have q266 : x10_2 < (x8_2.length : Int) := OD
                     obtain ⟨ad266, e266, hx266_0⟩ := Kd.at_int (Kd.R_reads' HO_8.out).2.2 x10_2 p266 q266
                     obtain rfl : (⟨go12, 0, none⟩ : Addr) = ad266 := (by injection e266)
                     (first | simp only [add_plain] at hx266_0 | simp only [add_at] at hx266_0 | simp only [Addr.add, Nat.zero_add] at hx266_0 | skip)
                     replace p266 := eq_true p266
                     replace q266 := eq_true q266
                     have p267 : 0 ≤ (x10_2 : Int) := OD
                     have q267 : x10_2 < (x8_2.length : Int) := OD
                     obtain ⟨ad267, e267, hx267_0⟩ := Kd.at_int (Kd.R_reads' HO_8.out).2.2 x10_2 p267 q267
                     obtain rfl : (⟨go12, 0, none⟩ : Addr) = ad267 := (by injection e267)
                     (first | simp only [add_plain] at hx267_0 | simp only [add_at] at hx267_0 | simp only [Addr.add, Nat.zero_add] at hx267_0 | skip)
                     replace p267 := eq_true p267
                     replace q267 := eq_true q267
                     try go_wp2
                     have n0_ := Aside0.mk (Kd.R_drew HO_7.out)
                     have n1_ := Aside0.mk (Kd.R_drew HO_8.out)
                     have n2_ := Aside0.mk (below_drew1 HB.out)
                     clear HO_7
                     clear HO_8
                     clear HB
                     have HO_7 := n0_
                     have HO_8 := n1_
                     have HB := n2_
                     clear n0_ n1_ n2_
                     have p268 : 0 ≤ (x9_1 : Int) := OD
                     have q268 : x9_1 < (x7_2.length : Int) := OD
                     obtain ⟨ad268, e268, hx268_0⟩ := Kd.at_int (Kd.R_reads' HO_7.out).2.2 x9_1 p268 q268
                     obtain rfl : (⟨go10, 0, none⟩ : Addr) = ad268 := (by injection e268)
                     (first | simp only [add_plain] at hx268_0 | simp only [add_at] at hx268_0 | simp only [Addr.add, Nat.zero_add] at hx268_0 | skip)
                     replace p268 := eq_true p268
                     replace q268 := eq_true q268
                     have p269 : 0 ≤ (x10_2 : Int) := OD
                     have q269 : x10_2 < (x7_2.length : Int) := OD
                     obtain ⟨ad269, e269, hx269_0⟩ := Kd.at_int (Kd.R_reads' HO_7.out).2.2 x10_2 p269 q269
                     obtain rfl : (⟨go10, 0, none⟩ : Addr) = ad269 := (by injection e269)
                     (first | simp only [add_plain] at hx269_0 | simp only [add_at] at hx269_0 | simp only [Addr.add, Nat.zero_add] at hx269_0 | skip)
                     replace p269 := eq_true p269
                     replace q269 := eq_true q269
                     have p35 : 0 ≤ (x9_1 : Int) := OD
                     have q35 : (x9_1 : Int) < ((x7_2.length : Int) : Int) := OD
                     obtain ⟨hx35_0, hf35_0⟩ := Kd.R_celln 0 HO_7.out (x9_1 : Int) p35 q35
                     replace p35 := eq_true p35
                     replace q35 := eq_true q35
                     have HP40 := Kd.R_putn HO_7.out (x9_1 : Int) (wrap64 ((rd x7_2 x9_1) + (rd x7_2 x10_2)))
                     rw [← Ny270.out] at HP40
                     have HQ40 := Aside0.mk HP40
                     clear HP40
                     refine start_ (n := 11) (S := fun w' => w'.cell? ⟨go10, (x9_1).toNat, none⟩ = some (.int .i64 (rd x7_2 x9_1)) ∧ w'.cell? ⟨go10, (x10_2).toNat, none⟩ = some (.int .i64 (rd x7_2 x10_2))) (ds := [10]) #[false, false, false, false, false, false, false, false, false, false, false] (by kernel_rfl) rfl rfl ⟨hx268_0, hx269_0⟩ (fun hHeld => ?_); refine with_tabW impl_ways.tab14 impl_ways.bits14 (fun HT_ HW_ => ?_)
                     generalize wr.drew = w39 at HO_7 HO_8 HB HQ40 hf35_0 hx268_0 hx269_0 hx35_0 hHeld ⊢
                     refine pure_ (i := 0) (N := some 58) (v := ?_) (a' := ?_) #[true, false, false, false, false, false, false, false, false, false, false] rfl rfl (any_of HT_.out (by kernel_rfl)) (fun _ _ _ h => h) (Or.inl ⟨by rfl, ?_⟩) ?_ ?_
                     rotate_left
                     ·intro w'
                      go_simp
                      with_reducible rfl
                     rotate_left
                     ·simp only [Act.put, List.setIfInBounds_toArray, List.set_cons_zero, List.set_cons_succ, i64_w, i32_w]
                      rfl
                     refine pure_ (i := 1) (N := some 59) (v := ?_) (a' := ?_) #[true, true, false, false, false, false, false, false, false, false, false] rfl rfl (any_of HT_.out (by kernel_rfl)) (fun _ _ _ h => h) (Or.inl ⟨by rfl, ?_⟩) ?_ ?_
                     rotate_left
                     ·intro w'
                      go_simp
                      with_reducible rfl
                     rotate_left
                     ·simp only [Act.put, List.setIfInBounds_toArray, List.set_cons_zero, List.set_cons_succ, i64_w, i32_w]
                      rfl
                     refine pure_ (i := 2) (N := some 60) (v := ?_) (a' := ?_) #[true, true, true, false, false, false, false, false, false, false, false] rfl rfl (any_of HT_.out (by kernel_rfl)) (fun _ _ _ h => h) (Or.inl ⟨by rfl, ?_⟩) ?_ ?_
                     rotate_left
                     ·intro w'
                      go_simp
                      with_reducible rfl
                     rotate_left
                     ·simp only [Act.put, List.setIfInBounds_toArray, List.set_cons_zero, List.set_cons_succ, i64_w, i32_w]
                      rfl
                     refine pure_ (i := 4) (N := some 62) (v := ?_) (a' := ?_) #[true, true, true, false, true, false, false, false, false, false, false] rfl rfl (any_of HT_.out (by kernel_rfl)) (fun _ _ _ h => h) (Or.inl ⟨by rfl, ?_⟩) ?_ ?_
                     rotate_left
                     ·intro w'
                      go_simp
                      with_reducible rfl
                     rotate_left
                     ·simp only [Act.put, List.setIfInBounds_toArray, List.set_cons_zero, List.set_cons_succ, i64_w, i32_w]
                      rfl
                     refine pure_ (i := 5) (N := some 63) (v := ?_) (a' := ?_) #[true, true, true, false, true, true, false, false, false, false, false] rfl rfl (any_of HT_.out (by kernel_rfl)) (fun _ _ _ h => h) (Or.inl ⟨by rfl, ?_⟩) ?_ ?_
                     rotate_left
                     ·intro w'
                      go_simp
                      with_reducible rfl
                     rotate_left
                     ·simp only [Act.put, List.setIfInBounds_toArray, List.set_cons_zero, List.set_cons_succ, i64_w, i32_w]
                      rfl
                     refine pure_ (i := 6) (N := some 64) (v := ?_) (a' := ?_) #[true, true, true, false, true, true, true, false, false, false, false] rfl rfl (any_of HT_.out (by kernel_rfl)) (fun _ _ _ h => h) (Or.inl ⟨by rfl, ?_⟩) ?_ ?_
                     rotate_left
                     ·intro w'
                      go_simp
                      with_reducible rfl
                     rotate_left
                     ·simp only [Act.put, List.setIfInBounds_toArray, List.set_cons_zero, List.set_cons_succ, i64_w, i32_w]
                      rfl
                     refine take_ (i := 3) (N := some 61) (v := ?_) (a' := ?_) #[true, true, true, true, true, true, true, false, false, false, false] rfl rfl (take_ofW HT_.out HW_.out (by kernel_rfl)) (fun _ _ _ h => h) (Or.inl ⟨by rfl, ?_⟩) hHeld ?_ ?_
                     rotate_left
                     ·rintro w' ⟨s0, s1⟩
                      go_simp
                      with_reducible rfl
                     rotate_left
                     ·simp only [Act.put, List.setIfInBounds_toArray, List.set_cons_zero, List.set_cons_succ, i64_w, i32_w]
                      rfl
                     refine take_ (i := 7) (N := some 65) (v := ?_) (a' := ?_) #[true, true, true, true, true, true, true, true, false, false, false] rfl rfl (take_ofW HT_.out HW_.out (by kernel_rfl)) (fun _ _ _ h => h) (Or.inl ⟨by rfl, ?_⟩) hHeld ?_ ?_
                     rotate_left
                     ·rintro w' ⟨s0, s1⟩
                      go_simp
                      with_reducible rfl
                     rotate_left
                     ·simp only [Act.put, List.setIfInBounds_toArray, List.set_cons_zero, List.set_cons_succ, i64_w, i32_w]
                      rfl
                     refine pure_ (i := 8) (N := some 66) (v := ?_) (a' := ?_) #[true, true, true, true, true, true, true, true, true, false, false] rfl rfl (any_of HT_.out (by kernel_rfl)) (fun _ _ _ h => h) (Or.inl ⟨by rfl, ?_⟩) ?_ ?_
                     rotate_left
                     ·intro w'
                      go_simp
                      with_reducible rfl
                     rotate_left
                     ·simp only [Act.put, List.setIfInBounds_toArray, List.set_cons_zero, List.set_cons_succ, i64_w, i32_w]
                      rfl
                     refine pure_ (i := 9) (N := some 67) (v := ?_) (a' := ?_) #[true, true, true, true, true, true, true, true, true, true, false] rfl rfl (any_of HT_.out (by kernel_rfl)) (fun _ _ _ h => h) (Or.inl ⟨by rfl, ?_⟩) ?_ ?_
                     rotate_left
                     ·intro w'
                      go_simp
                      with_reducible rfl
                     rotate_left
                     ·simp only [Act.put, List.setIfInBounds_toArray, List.set_cons_zero, List.set_cons_succ, i64_w, i32_w]
                      rfl
                     refine last_ (i := 10) (N := none) #[true, true, true, true, true, true, true, true, true, true, true] rfl rfl (one_of HT_.out (by kernel_rfl)) (by decide) (fun K hK => ?_)
                     refine skip_ (w1 := ?_) (by rfl) rfl ?_ ?_
                     rotate_left
                     ·go_simp
                      rfl
                     refine hK.out _ _ ?_
                     clear hK K
                     refine done_ (done_of HT_.out (by kernel_rfl)) ?_
                     have n0_ : Aside0 (Kd.R (Kd.int .i64) 3 (w39.setCell ⟨go10, (x9_1 : Int).toNat, none⟩ (.int .i64 (wrap64 ((rd x7_2 x9_1) + (rd x7_2 x10_2))))) w.heap.size (fun k_ => some k_ ≠ (.slice (some ⟨go12, 0, none⟩) x8_2.length co12 : Value).ownBlock) (.slice (some ⟨go10, 0, none⟩) x7_2.length co10) y270) := ⟨RS HQ40.out⟩
                     have n1_ : Aside0 (Kd.R (Kd.int .i64) 3 (w39.setCell ⟨go10, (x9_1 : Int).toNat, none⟩ (.int .i64 (wrap64 ((rd x7_2 x9_1) + (rd x7_2 x10_2))))) w.heap.size (fun k_ => some k_ ≠ (.slice (some ⟨go10, 0, none⟩) x7_2.length co10 : Value).ownBlock) (.slice (some ⟨go12, 0, none⟩) x8_2.length co12) x8_2) := ⟨RS (Kd.R_mono (Kd.R_far (p := ⟨go10, (x9_1 : Int).toNat, none⟩) (Kd.R_mono HO_8.out (fun k_ hk => (⟨hk, fun e_ => hk (by rw [e_]; rfl)⟩ : _ ∧ k_ ≠ go10))) (fun _ hk => hk.2) (.int .i64 (wrap64 ((rd x7_2 x9_1) + (rd x7_2 x10_2))))) (fun _ hk => hk.1))⟩
                     have n2_ : Aside0 (Below w.heap.size w (w39.setCell ⟨go10, (x9_1 : Int).toNat, none⟩ (.int .i64 (wrap64 ((rd x7_2 x9_1) + (rd x7_2 x10_2)))))) := ⟨by repeat (first | (with_reducible first | exact HB.out | apply below_alloc | apply pw_below_drewN | apply below_drew1 | refine below_set ?_ GB10.out) | exact HB.out)⟩
                     (try clear HO_7)
                     (try clear HO_8)
                     (try clear HB)
                     generalize (w39.setCell ⟨go10, (x9_1 : Int).toNat, none⟩ (.int .i64 (wrap64 ((rd x7_2 x9_1) + (rd x7_2 x10_2))))) = w41 at n0_ n1_ n2_ ⊢
                     have HO_7 := n0_
                     have HO_8 := n1_
                     have HB := n2_
                     clear n0_ n1_ n2_
                     have p271 : 0 ≤ (x9_1 : Int) := OD
                     have q271 : x9_1 < (x8_2.length : Int) := OD
                     obtain ⟨ad271, e271, hx271_0⟩ := Kd.at_int (Kd.R_reads' HO_8.out).2.2 x9_1 p271 q271
                     obtain rfl : (⟨go12, 0, none⟩ : Addr) = ad271 := (by injection e271)
                     (first | simp only [add_plain] at hx271_0 | simp only [add_at] at hx271_0 | simp only [Addr.add, Nat.zero_add] at hx271_0 | skip)
                     replace p271 := eq_true p271
                     replace q271 := eq_true q271
                     have p38 : 0 ≤ (x9_1 : Int) := OD
                     have q38 : (x9_1 : Int) < ((x8_2.length : Int) : Int) := OD
                     obtain ⟨hx38_0, hf38_0⟩ := Kd.R_celln 0 HO_8.out (x9_1 : Int) p38 q38
                     replace p38 := eq_true p38
                     replace q38 := eq_true q38
                     obtain ⟨hy42_, hz42_⟩ := Kd.R_celln 0 HO_8.out (x9_1 : Int) OD OD
                     have HP42 := Kd.R_putg HO_8.out (x9_1 : Int) 0
                     try go_wp2_with (first | ((with_reducible refine gate_store (t := 3) (p := 84) rfl ?_); refine store_event (t := 3) (p := 84) (v := ?vo_w43) (w1 := (w41.setCell ⟨go12, (x9_1 : Int).toNat, none⟩ (.int .i64 0))) ?hg ?ho ?hn ?hr ?_; (case ho => rfl); (case hg => rfl); (case hn => rfl); (case hr => first | (go_simp; done) | (go_simp; rfl)); intro w43 hw; have hg : w41.grownBy w43 (some go12) := (by rw [hw]; exact HP42.2); have hp_ : Kd.R (Kd.int .i64) 3 w43 w.heap.size (fun k_ => some k_ ≠ (.slice (some ⟨go10, 0, none⟩) x7_2.length co10 : Value).ownBlock) (.slice (some ⟨go12, 0, none⟩) x8_2.length co12) y272 := (by rw [hw, Ny272.out]; exact HP42.1); clear HP42; have n0_ := Aside0.mk (Kd.R_after (v := (.slice (some ⟨go12, 0, none⟩) x8_2.length co12)) (v1 := (.slice (some ⟨go12, 0, none⟩) x8_2.length co12)) (ok := (fun _ => True)) (RS (Kd.R_mono HO_7.out (fun _ hk => ⟨trivial, hk⟩))) hg (.inl rfl)); have n1_ := Aside0.mk (hp_); have n2_ := Aside0.mk ((by rw [hw]; exact below_set (HB.out) GB12.out : Below w.heap.size w w43)); clear HO_7; clear HO_8; clear HB; have HO_7 := n0_; have HO_8 := n1_; have HB := n2_; clear n0_ n1_ n2_; clear hg hw hp_))
                     (try simp only [← hl7_2, ← hl8_2])
                     go_roundg k2
                     case measure => have := HK1.out; have := HK2.out; omega
                     case rel => exact ⟨(y270), (y272), (wrap64 (x10_2 + 1)), Za, H', ⟨by have := HK1.out; have := HK2.out; omega⟩, ⟨by (try simp only [hl7_1]); (try simp only [hl8_1]); (try simp only [hl7_2]); (try simp only [hl8_2]); (with_reducible repeat (first | apply Kd.R_alloc | apply Kd.R_drewN | apply Kd.R_drew)); exact Kd.R_mono HO_7.out (fun _ hk => hk.2)⟩, ⟨by (try simp only [hl7_1]); (try simp only [hl8_1]); (try simp only [hl7_2]); (try simp only [hl8_2]); (with_reducible repeat (first | apply Kd.R_alloc | apply Kd.R_drewN | apply Kd.R_drew)); exact HO_8.out⟩, ⟨BS HB.out⟩⟩
                    ·rw [if_neg c37] at H
                     have c37b0 : decide ((rd x8_2 x9_1) < 0) = false := decide_eq_false c37
                     clear c37
                     by_cases c44 : 0 < (rd x8_2 x9_1)
                     ·rw [if_pos c44] at H
                      have c44b0 : decide (0 < (rd x8_2 x9_1)) = true := decide_eq_true c44
                      clear c44
                      obtain ⟨y274, hy274⟩ : ∃ y_ : List Int, y_ = (x8_2.set (x9_1 : Int).toNat 0) := ⟨_, rfl⟩
                      replace H : (impl_ways.l1 k2 l0 a1 ji7 y270 y274 x9_1 (wrap64 (x10_2 + 1))) = some (r1, r2) := by first | (rw [hy274]; with_reducible exact H) | (have H2_ := (Option.bind_some _ _).symm.trans H; rw [hy274]; with_reducible exact H2_) | (have H2_ := (Option.bind_some _ _).symm.trans H; with_reducible exact H2_) | with_reducible exact H | (rw [hy274]; exact H) | exact H
                      have Ny274 := Aside0.mk hy274
                      clear hy274
                      have H' := Aside0.mk H
                      clear H
                      have p266 : 0 ≤ (x10_2 : Int) := OD
                      have q266 : x10_2 < (x8_2.length : Int) := OD
                      obtain ⟨ad266, e266, hx266_0⟩ := Kd.at_int (Kd.R_reads' HO_8.out).2.2 x10_2 p266 q266
                      obtain rfl : (⟨go12, 0, none⟩ : Addr) = ad266 := (by injection e266)
                      (first | simp only [add_plain] at hx266_0 | simp only [add_at] at hx266_0 | simp only [Addr.add, Nat.zero_add] at hx266_0 | skip)
                      replace p266 := eq_true p266
                      replace q266 := eq_true q266
                      have p267 : 0 ≤ (x10_2 : Int) := OD
                      have q267 : x10_2 < (x8_2.length : Int) := OD
                      obtain ⟨ad267, e267, hx267_0⟩ := Kd.at_int (Kd.R_reads' HO_8.out).2.2 x10_2 p267 q267
                      obtain rfl : (⟨go12, 0, none⟩ : Addr) = ad267 := (by injection e267)
                      (first | simp only [add_plain] at hx267_0 | simp only [add_at] at hx267_0 | simp only [Addr.add, Nat.zero_add] at hx267_0 | skip)
                      replace p267 := eq_true p267
                      replace q267 := eq_true q267
                      try go_wp2
                      have n0_ := Aside0.mk (Kd.R_drew HO_7.out)
                      have n1_ := Aside0.mk (Kd.R_drew HO_8.out)
                      have n2_ := Aside0.mk (below_drew1 HB.out)
                      clear HO_7
                      clear HO_8
                      clear HB
                      have HO_7 := n0_
                      have HO_8 := n1_
                      have HB := n2_
                      clear n0_ n1_ n2_
                      have p268 : 0 ≤ (x9_1 : Int) := OD
                      have q268 : x9_1 < (x7_2.length : Int) := OD
                      obtain ⟨ad268, e268, hx268_0⟩ := Kd.at_int (Kd.R_reads' HO_7.out).2.2 x9_1 p268 q268
                      obtain rfl : (⟨go10, 0, none⟩ : Addr) = ad268 := (by injection e268)
                      (first | simp only [add_plain] at hx268_0 | simp only [add_at] at hx268_0 | simp only [Addr.add, Nat.zero_add] at hx268_0 | skip)
                      replace p268 := eq_true p268
                      replace q268 := eq_true q268
                      have p269 : 0 ≤ (x10_2 : Int) := OD
                      have q269 : x10_2 < (x7_2.length : Int) := OD
                      obtain ⟨ad269, e269, hx269_0⟩ := Kd.at_int (Kd.R_reads' HO_7.out).2.2 x10_2 p269 q269
                      obtain rfl : (⟨go10, 0, none⟩ : Addr) = ad269 := (by injection e269)
                      (first | simp only [add_plain] at hx269_0 | simp only [add_at] at hx269_0 | simp only [Addr.add, Nat.zero_add] at hx269_0 | skip)
                      replace p269 := eq_true p269
                      replace q269 := eq_true q269
                      have p35 : 0 ≤ (x9_1 : Int) := OD
                      have q35 : (x9_1 : Int) < ((x7_2.length : Int) : Int) := OD
                      obtain ⟨hx35_0, hf35_0⟩ := Kd.R_celln 0 HO_7.out (x9_1 : Int) p35 q35
                      replace p35 := eq_true p35
                      replace q35 := eq_true q35
                      have HP47 := Kd.R_putn HO_7.out (x9_1 : Int) (wrap64 ((rd x7_2 x9_1) + (rd x7_2 x10_2)))
                      rw [← Ny270.out] at HP47
                      have HQ47 := Aside0.mk HP47
                      clear HP47
                      refine start_ (n := 11) (S := fun w' => w'.cell? ⟨go10, (x9_1).toNat, none⟩ = some (.int .i64 (rd x7_2 x9_1)) ∧ w'.cell? ⟨go10, (x10_2).toNat, none⟩ = some (.int .i64 (rd x7_2 x10_2))) (ds := [10]) #[false, false, false, false, false, false, false, false, false, false, false] (by kernel_rfl) rfl rfl ⟨hx268_0, hx269_0⟩ (fun hHeld => ?_); refine with_tabW impl_ways.tab14 impl_ways.bits14 (fun HT_ HW_ => ?_)
                      generalize wr.drew = w46 at HO_7 HO_8 HB HQ47 hf35_0 hx268_0 hx269_0 hx35_0 hHeld ⊢
                      refine pure_ (i := 0) (N := some 58) (v := ?_) (a' := ?_) #[true, false, false, false, false, false, false, false, false, false, false] rfl rfl (any_of HT_.out (by kernel_rfl)) (fun _ _ _ h => h) (Or.inl ⟨by rfl, ?_⟩) ?_ ?_
                      rotate_left
                      ·intro w'
                       go_simp
                       with_reducible rfl
                      rotate_left
                      ·simp only [Act.put, List.setIfInBounds_toArray, List.set_cons_zero, List.set_cons_succ, i64_w, i32_w]
                       rfl
                      refine pure_ (i := 1) (N := some 59) (v := ?_) (a' := ?_) #[true, true, false, false, false, false, false, false, false, false, false] rfl rfl (any_of HT_.out (by kernel_rfl)) (fun _ _ _ h => h) (Or.inl ⟨by rfl, ?_⟩) ?_ ?_
                      rotate_left
                      ·intro w'
                       go_simp
                       with_reducible rfl
                      rotate_left
                      ·simp only [Act.put, List.setIfInBounds_toArray, List.set_cons_zero, List.set_cons_succ, i64_w, i32_w]
                       rfl
                      refine pure_ (i := 2) (N := some 60) (v := ?_) (a' := ?_) #[true, true, true, false, false, false, false, false, false, false, false] rfl rfl (any_of HT_.out (by kernel_rfl)) (fun _ _ _ h => h) (Or.inl ⟨by rfl, ?_⟩) ?_ ?_
                      rotate_left
                      ·intro w'
                       go_simp
                       with_reducible rfl
                      rotate_left
                      ·simp only [Act.put, List.setIfInBounds_toArray, List.set_cons_zero, List.set_cons_succ, i64_w, i32_w]
                       rfl
                      refine pure_ (i := 4) (N := some 62) (v := ?_) (a' := ?_) #[true, true, true, false, true, false, false, false, false, false, false] rfl rfl (any_of HT_.out (by kernel_rfl)) (fun _ _ _ h => h) (Or.inl ⟨by rfl, ?_⟩) ?_ ?_
                      rotate_left
                      ·intro w'
                       go_simp
                       with_reducible rfl
                      rotate_left
                      ·simp only [Act.put, List.setIfInBounds_toArray, List.set_cons_zero, List.set_cons_succ, i64_w, i32_w]
                       rfl
                      refine pure_ (i := 5) (N := some 63) (v := ?_) (a' := ?_) #[true, true, true, false, true, true, false, false, false, false, false] rfl rfl (any_of HT_.out (by kernel_rfl)) (fun _ _ _ h => h) (Or.inl ⟨by rfl, ?_⟩) ?_ ?_
                      rotate_left
                      ·intro w'
                       go_simp
                       with_reducible rfl
                      rotate_left
                      ·simp only [Act.put, List.setIfInBounds_toArray, List.set_cons_zero, List.set_cons_succ, i64_w, i32_w]
                       rfl
                      refine pure_ (i := 6) (N := some 64) (v := ?_) (a' := ?_) #[true, true, true, false, true, true, true, false, false, false, false] rfl rfl (any_of HT_.out (by kernel_rfl)) (fun _ _ _ h => h) (Or.inl ⟨by rfl, ?_⟩) ?_ ?_
                      rotate_left
                      ·intro w'
                       go_simp
                       with_reducible rfl
                      rotate_left
                      ·simp only [Act.put, List.setIfInBounds_toArray, List.set_cons_zero, List.set_cons_succ, i64_w, i32_w]
                       rfl
                      refine take_ (i := 3) (N := some 61) (v := ?_) (a' := ?_) #[true, true, true, true, true, true, true, false, false, false, false] rfl rfl (take_ofW HT_.out HW_.out (by kernel_rfl)) (fun _ _ _ h => h) (Or.inl ⟨by rfl, ?_⟩) hHeld ?_ ?_
                      rotate_left
                      ·rintro w' ⟨s0, s1⟩
                       go_simp
                       with_reducible rfl
                      rotate_left
                      ·simp only [Act.put, List.setIfInBounds_toArray, List.set_cons_zero, List.set_cons_succ, i64_w, i32_w]
                       rfl
                      refine take_ (i := 7) (N := some 65) (v := ?_) (a' := ?_) #[true, true, true, true, true, true, true, true, false, false, false] rfl rfl (take_ofW HT_.out HW_.out (by kernel_rfl)) (fun _ _ _ h => h) (Or.inl ⟨by rfl, ?_⟩) hHeld ?_ ?_
                      rotate_left
                      ·rintro w' ⟨s0, s1⟩
                       go_simp
                       with_reducible rfl
                      rotate_left
                      ·simp only [Act.put, List.setIfInBounds_toArray, List.set_cons_zero, List.set_cons_succ, i64_w, i32_w]
                       rfl
                      refine pure_ (i := 8) (N := some 66) (v := ?_) (a' := ?_) #[true, true, true, true, true, true, true, true, true, false, false] rfl rfl (any_of HT_.out (by kernel_rfl)) (fun _ _ _ h => h) (Or.inl ⟨by rfl, ?_⟩) ?_ ?_
                      rotate_left
                      ·intro w'
                       go_simp
                       with_reducible rfl
                      rotate_left
                      ·simp only [Act.put, List.setIfInBounds_toArray, List.set_cons_zero, List.set_cons_succ, i64_w, i32_w]
                       rfl
                      refine pure_ (i := 9) (N := some 67) (v := ?_) (a' := ?_) #[true, true, true, true, true, true, true, true, true, true, false] rfl rfl (any_of HT_.out (by kernel_rfl)) (fun _ _ _ h => h) (Or.inl ⟨by rfl, ?_⟩) ?_ ?_
                      rotate_left
                      ·intro w'
                       go_simp
                       with_reducible rfl
                      rotate_left
                      ·simp only [Act.put, List.setIfInBounds_toArray, List.set_cons_zero, List.set_cons_succ, i64_w, i32_w]
                       rfl
                      refine last_ (i := 10) (N := none) #[true, true, true, true, true, true, true, true, true, true, true] rfl rfl (one_of HT_.out (by kernel_rfl)) (by decide) (fun K hK => ?_)
                      refine skip_ (w1 := ?_) (by rfl) rfl ?_ ?_
                      rotate_left
                      ·go_simp
                       rfl
                      refine hK.out _ _ ?_
                      clear hK K
                      refine done_ (done_of HT_.out (by kernel_rfl)) ?_
                      have n0_ : Aside0 (Kd.R (Kd.int .i64) 3 (w46.setCell ⟨go10, (x9_1 : Int).toNat, none⟩ (.int .i64 (wrap64 ((rd x7_2 x9_1) + (rd x7_2 x10_2))))) w.heap.size (fun k_ => some k_ ≠ (.slice (some ⟨go12, 0, none⟩) x8_2.length co12 : Value).ownBlock) (.slice (some ⟨go10, 0, none⟩) x7_2.length co10) y270) := ⟨RS HQ47.out⟩
                      have n1_ : Aside0 (Kd.R (Kd.int .i64) 3 (w46.setCell ⟨go10, (x9_1 : Int).toNat, none⟩ (.int .i64 (wrap64 ((rd x7_2 x9_1) + (rd x7_2 x10_2))))) w.heap.size (fun k_ => some k_ ≠ (.slice (some ⟨go10, 0, none⟩) x7_2.length co10 : Value).ownBlock) (.slice (some ⟨go12, 0, none⟩) x8_2.length co12) x8_2) := ⟨RS (Kd.R_mono (Kd.R_far (p := ⟨go10, (x9_1 : Int).toNat, none⟩) (Kd.R_mono HO_8.out (fun k_ hk => (⟨hk, fun e_ => hk (by rw [e_]; rfl)⟩ : _ ∧ k_ ≠ go10))) (fun _ hk => hk.2) (.int .i64 (wrap64 ((rd x7_2 x9_1) + (rd x7_2 x10_2))))) (fun _ hk => hk.1))⟩
                      have n2_ : Aside0 (Below w.heap.size w (w46.setCell ⟨go10, (x9_1 : Int).toNat, none⟩ (.int .i64 (wrap64 ((rd x7_2 x9_1) + (rd x7_2 x10_2)))))) := ⟨by repeat (first | (with_reducible first | exact HB.out | apply below_alloc | apply pw_below_drewN | apply below_drew1 | refine below_set ?_ GB10.out) | exact HB.out)⟩
                      (try clear HO_7)
                      (try clear HO_8)
                      (try clear HB)
                      generalize (w46.setCell ⟨go10, (x9_1 : Int).toNat, none⟩ (.int .i64 (wrap64 ((rd x7_2 x9_1) + (rd x7_2 x10_2))))) = w48 at n0_ n1_ n2_ ⊢
                      have HO_7 := n0_
                      have HO_8 := n1_
                      have HB := n2_
                      clear n0_ n1_ n2_
                      have p271 : 0 ≤ (x9_1 : Int) := OD
                      have q271 : x9_1 < (x8_2.length : Int) := OD
                      obtain ⟨ad271, e271, hx271_0⟩ := Kd.at_int (Kd.R_reads' HO_8.out).2.2 x9_1 p271 q271
                      obtain rfl : (⟨go12, 0, none⟩ : Addr) = ad271 := (by injection e271)
                      (first | simp only [add_plain] at hx271_0 | simp only [add_at] at hx271_0 | simp only [Addr.add, Nat.zero_add] at hx271_0 | skip)
                      replace p271 := eq_true p271
                      replace q271 := eq_true q271
                      have p273 : 0 ≤ (x9_1 : Int) := OD
                      have q273 : x9_1 < (x8_2.length : Int) := OD
                      obtain ⟨ad273, e273, hx273_0⟩ := Kd.at_int (Kd.R_reads' HO_8.out).2.2 x9_1 p273 q273
                      obtain rfl : (⟨go12, 0, none⟩ : Addr) = ad273 := (by injection e273)
                      (first | simp only [add_plain] at hx273_0 | simp only [add_at] at hx273_0 | simp only [Addr.add, Nat.zero_add] at hx273_0 | skip)
                      replace p273 := eq_true p273
                      replace q273 := eq_true q273
                      have p45 : 0 ≤ (x9_1 : Int) := OD
                      have q45 : (x9_1 : Int) < ((x8_2.length : Int) : Int) := OD
                      obtain ⟨hx45_0, hf45_0⟩ := Kd.R_celln 0 HO_8.out (x9_1 : Int) p45 q45
                      replace p45 := eq_true p45
                      replace q45 := eq_true q45
                      obtain ⟨hy49_, hz49_⟩ := Kd.R_celln 0 HO_8.out (x9_1 : Int) OD OD
                      have HP49 := Kd.R_putg HO_8.out (x9_1 : Int) 0
                      try go_wp2_with (first | ((with_reducible refine gate_store (t := 3) (p := 84) rfl ?_); refine store_event (t := 3) (p := 84) (v := ?vo_w50) (w1 := (w48.setCell ⟨go12, (x9_1 : Int).toNat, none⟩ (.int .i64 0))) ?hg ?ho ?hn ?hr ?_; (case ho => rfl); (case hg => rfl); (case hn => rfl); (case hr => first | (go_simp; done) | (go_simp; rfl)); intro w50 hw; have hg : w48.grownBy w50 (some go12) := (by rw [hw]; exact HP49.2); have hp_ : Kd.R (Kd.int .i64) 3 w50 w.heap.size (fun k_ => some k_ ≠ (.slice (some ⟨go10, 0, none⟩) x7_2.length co10 : Value).ownBlock) (.slice (some ⟨go12, 0, none⟩) x8_2.length co12) y274 := (by rw [hw, Ny274.out]; exact HP49.1); clear HP49; have n0_ := Aside0.mk (Kd.R_after (v := (.slice (some ⟨go12, 0, none⟩) x8_2.length co12)) (v1 := (.slice (some ⟨go12, 0, none⟩) x8_2.length co12)) (ok := (fun _ => True)) (RS (Kd.R_mono HO_7.out (fun _ hk => ⟨trivial, hk⟩))) hg (.inl rfl)); have n1_ := Aside0.mk (hp_); have n2_ := Aside0.mk ((by rw [hw]; exact below_set (HB.out) GB12.out : Below w.heap.size w w50)); clear HO_7; clear HO_8; clear HB; have HO_7 := n0_; have HO_8 := n1_; have HB := n2_; clear n0_ n1_ n2_; clear hg hw hp_))
                      (try simp only [← hl7_2, ← hl8_2])
                      go_roundg k2
                      case measure => have := HK1.out; have := HK2.out; omega
                      case rel => exact ⟨(y270), (y274), (wrap64 (x10_2 + 1)), Za, H', ⟨by have := HK1.out; have := HK2.out; omega⟩, ⟨by (try simp only [hl7_1]); (try simp only [hl8_1]); (try simp only [hl7_2]); (try simp only [hl8_2]); (with_reducible repeat (first | apply Kd.R_alloc | apply Kd.R_drewN | apply Kd.R_drew)); exact Kd.R_mono HO_7.out (fun _ hk => hk.2)⟩, ⟨by (try simp only [hl7_1]); (try simp only [hl8_1]); (try simp only [hl7_2]); (try simp only [hl8_2]); (with_reducible repeat (first | apply Kd.R_alloc | apply Kd.R_drewN | apply Kd.R_drew)); exact HO_8.out⟩, ⟨BS HB.out⟩⟩
                     ·rw [if_neg c44] at H
                      have c44b0 : decide (0 < (rd x8_2 x9_1)) = false := decide_eq_false c44
                      clear c44
                      have H' := Aside0.mk H
                      clear H
                      have p266 : 0 ≤ (x10_2 : Int) := OD
                      have q266 : x10_2 < (x8_2.length : Int) := OD
                      obtain ⟨ad266, e266, hx266_0⟩ := Kd.at_int (Kd.R_reads' HO_8.out).2.2 x10_2 p266 q266
                      obtain rfl : (⟨go12, 0, none⟩ : Addr) = ad266 := (by injection e266)
                      (first | simp only [add_plain] at hx266_0 | simp only [add_at] at hx266_0 | simp only [Addr.add, Nat.zero_add] at hx266_0 | skip)
                      replace p266 := eq_true p266
                      replace q266 := eq_true q266
                      have p267 : 0 ≤ (x10_2 : Int) := OD
                      have q267 : x10_2 < (x8_2.length : Int) := OD
                      obtain ⟨ad267, e267, hx267_0⟩ := Kd.at_int (Kd.R_reads' HO_8.out).2.2 x10_2 p267 q267
                      obtain rfl : (⟨go12, 0, none⟩ : Addr) = ad267 := (by injection e267)
                      (first | simp only [add_plain] at hx267_0 | simp only [add_at] at hx267_0 | simp only [Addr.add, Nat.zero_add] at hx267_0 | skip)
                      replace p267 := eq_true p267
                      replace q267 := eq_true q267
                      try go_wp2
                      have n0_ := Aside0.mk (Kd.R_drew HO_7.out)
                      have n1_ := Aside0.mk (Kd.R_drew HO_8.out)
                      have n2_ := Aside0.mk (below_drew1 HB.out)
                      clear HO_7
                      clear HO_8
                      clear HB
                      have HO_7 := n0_
                      have HO_8 := n1_
                      have HB := n2_
                      clear n0_ n1_ n2_
                      have p268 : 0 ≤ (x9_1 : Int) := OD
                      have q268 : x9_1 < (x7_2.length : Int) := OD
                      obtain ⟨ad268, e268, hx268_0⟩ := Kd.at_int (Kd.R_reads' HO_7.out).2.2 x9_1 p268 q268
                      obtain rfl : (⟨go10, 0, none⟩ : Addr) = ad268 := (by injection e268)
                      (first | simp only [add_plain] at hx268_0 | simp only [add_at] at hx268_0 | simp only [Addr.add, Nat.zero_add] at hx268_0 | skip)
                      replace p268 := eq_true p268
                      replace q268 := eq_true q268
                      have p269 : 0 ≤ (x10_2 : Int) := OD
                      have q269 : x10_2 < (x7_2.length : Int) := OD
                      obtain ⟨ad269, e269, hx269_0⟩ := Kd.at_int (Kd.R_reads' HO_7.out).2.2 x10_2 p269 q269
                      obtain rfl : (⟨go10, 0, none⟩ : Addr) = ad269 := (by injection e269)
                      (first | simp only [add_plain] at hx269_0 | simp only [add_at] at hx269_0 | simp only [Addr.add, Nat.zero_add] at hx269_0 | skip)
                      replace p269 := eq_true p269
                      replace q269 := eq_true q269
                      have p35 : 0 ≤ (x9_1 : Int) := OD
                      have q35 : (x9_1 : Int) < ((x7_2.length : Int) : Int) := OD
                      obtain ⟨hx35_0, hf35_0⟩ := Kd.R_celln 0 HO_7.out (x9_1 : Int) p35 q35
                      replace p35 := eq_true p35
                      replace q35 := eq_true q35
                      have HP52 := Kd.R_putn HO_7.out (x9_1 : Int) (wrap64 ((rd x7_2 x9_1) + (rd x7_2 x10_2)))
                      rw [← Ny270.out] at HP52
                      have HQ52 := Aside0.mk HP52
                      clear HP52
                      refine start_ (n := 11) (S := fun w' => w'.cell? ⟨go10, (x9_1).toNat, none⟩ = some (.int .i64 (rd x7_2 x9_1)) ∧ w'.cell? ⟨go10, (x10_2).toNat, none⟩ = some (.int .i64 (rd x7_2 x10_2))) (ds := [10]) #[false, false, false, false, false, false, false, false, false, false, false] (by kernel_rfl) rfl rfl ⟨hx268_0, hx269_0⟩ (fun hHeld => ?_); refine with_tabW impl_ways.tab14 impl_ways.bits14 (fun HT_ HW_ => ?_)
                      generalize wr.drew = w51 at HO_7 HO_8 HB HQ52 hf35_0 hx268_0 hx269_0 hx35_0 hHeld ⊢
                      refine pure_ (i := 0) (N := some 58) (v := ?_) (a' := ?_) #[true, false, false, false, false, false, false, false, false, false, false] rfl rfl (any_of HT_.out (by kernel_rfl)) (fun _ _ _ h => h) (Or.inl ⟨by rfl, ?_⟩) ?_ ?_
                      rotate_left
                      ·intro w'
                       go_simp
                       with_reducible rfl
                      rotate_left
                      ·simp only [Act.put, List.setIfInBounds_toArray, List.set_cons_zero, List.set_cons_succ, i64_w, i32_w]
                       rfl
                      refine pure_ (i := 1) (N := some 59) (v := ?_) (a' := ?_) #[true, true, false, false, false, false, false, false, false, false, false] rfl rfl (any_of HT_.out (by kernel_rfl)) (fun _ _ _ h => h) (Or.inl ⟨by rfl, ?_⟩) ?_ ?_
                      rotate_left
                      ·intro w'
                       go_simp
                       with_reducible rfl
                      rotate_left
                      ·simp only [Act.put, List.setIfInBounds_toArray, List.set_cons_zero, List.set_cons_succ, i64_w, i32_w]
                       rfl
                      refine pure_ (i := 2) (N := some 60) (v := ?_) (a' := ?_) #[true, true, true, false, false, false, false, false, false, false, false] rfl rfl (any_of HT_.out (by kernel_rfl)) (fun _ _ _ h => h) (Or.inl ⟨by rfl, ?_⟩) ?_ ?_
                      rotate_left
                      ·intro w'
                       go_simp
                       with_reducible rfl
                      rotate_left
                      ·simp only [Act.put, List.setIfInBounds_toArray, List.set_cons_zero, List.set_cons_succ, i64_w, i32_w]
                       rfl
                      refine pure_ (i := 4) (N := some 62) (v := ?_) (a' := ?_) #[true, true, true, false, true, false, false, false, false, false, false] rfl rfl (any_of HT_.out (by kernel_rfl)) (fun _ _ _ h => h) (Or.inl ⟨by rfl, ?_⟩) ?_ ?_
                      rotate_left
                      ·intro w'
                       go_simp
                       with_reducible rfl
                      rotate_left
                      ·simp only [Act.put, List.setIfInBounds_toArray, List.set_cons_zero, List.set_cons_succ, i64_w, i32_w]
                       rfl
                      refine pure_ (i := 5) (N := some 63) (v := ?_) (a' := ?_) #[true, true, true, false, true, true, false, false, false, false, false] rfl rfl (any_of HT_.out (by kernel_rfl)) (fun _ _ _ h => h) (Or.inl ⟨by rfl, ?_⟩) ?_ ?_
                      rotate_left
                      ·intro w'
                       go_simp
                       with_reducible rfl
                      rotate_left
                      ·simp only [Act.put, List.setIfInBounds_toArray, List.set_cons_zero, List.set_cons_succ, i64_w, i32_w]
                       rfl
                      refine pure_ (i := 6) (N := some 64) (v := ?_) (a' := ?_) #[true, true, true, false, true, true, true, false, false, false, false] rfl rfl (any_of HT_.out (by kernel_rfl)) (fun _ _ _ h => h) (Or.inl ⟨by rfl, ?_⟩) ?_ ?_
                      rotate_left
                      ·intro w'
                       go_simp
                       with_reducible rfl
                      rotate_left
                      ·simp only [Act.put, List.setIfInBounds_toArray, List.set_cons_zero, List.set_cons_succ, i64_w, i32_w]
                       rfl
                      refine take_ (i := 3) (N := some 61) (v := ?_) (a' := ?_) #[true, true, true, true, true, true, true, false, false, false, false] rfl rfl (take_ofW HT_.out HW_.out (by kernel_rfl)) (fun _ _ _ h => h) (Or.inl ⟨by rfl, ?_⟩) hHeld ?_ ?_
                      rotate_left
                      ·rintro w' ⟨s0, s1⟩
                       go_simp
                       with_reducible rfl
                      rotate_left
                      ·simp only [Act.put, List.setIfInBounds_toArray, List.set_cons_zero, List.set_cons_succ, i64_w, i32_w]
                       rfl
                      refine take_ (i := 7) (N := some 65) (v := ?_) (a' := ?_) #[true, true, true, true, true, true, true, true, false, false, false] rfl rfl (take_ofW HT_.out HW_.out (by kernel_rfl)) (fun _ _ _ h => h) (Or.inl ⟨by rfl, ?_⟩) hHeld ?_ ?_
                      rotate_left
                      ·rintro w' ⟨s0, s1⟩
                       go_simp
                       with_reducible rfl
                      rotate_left
                      ·simp only [Act.put, List.setIfInBounds_toArray, List.set_cons_zero, List.set_cons_succ, i64_w, i32_w]
                       rfl
                      refine pure_ (i := 8) (N := some 66) (v := ?_) (a' := ?_) #[true, true, true, true, true, true, true, true, true, false, false] rfl rfl (any_of HT_.out (by kernel_rfl)) (fun _ _ _ h => h) (Or.inl ⟨by rfl, ?_⟩) ?_ ?_
                      rotate_left
                      ·intro w'
                       go_simp
                       with_reducible rfl
                      rotate_left
                      ·simp only [Act.put, List.setIfInBounds_toArray, List.set_cons_zero, List.set_cons_succ, i64_w, i32_w]
                       rfl
                      refine pure_ (i := 9) (N := some 67) (v := ?_) (a' := ?_) #[true, true, true, true, true, true, true, true, true, true, false] rfl rfl (any_of HT_.out (by kernel_rfl)) (fun _ _ _ h => h) (Or.inl ⟨by rfl, ?_⟩) ?_ ?_
                      rotate_left
                      ·intro w'
                       go_simp
                       with_reducible rfl
                      rotate_left
                      ·simp only [Act.put, List.setIfInBounds_toArray, List.set_cons_zero, List.set_cons_succ, i64_w, i32_w]
                       rfl
                      refine last_ (i := 10) (N := none) #[true, true, true, true, true, true, true, true, true, true, true] rfl rfl (one_of HT_.out (by kernel_rfl)) (by decide) (fun K hK => ?_)
                      refine skip_ (w1 := ?_) (by rfl) rfl ?_ ?_
                      rotate_left
                      ·go_simp
                       rfl
                      refine hK.out _ _ ?_
                      clear hK K
                      refine done_ (done_of HT_.out (by kernel_rfl)) ?_
                      have p271 : 0 ≤ (x9_1 : Int) := OD
                      have q271 : x9_1 < (x8_2.length : Int) := OD
                      obtain ⟨ad271, e271, hx271_0⟩ := Kd.at_int (Kd.R_reads' HO_8.out).2.2 x9_1 p271 q271
                      obtain rfl : (⟨go12, 0, none⟩ : Addr) = ad271 := (by injection e271)
                      (first | simp only [add_plain] at hx271_0 | simp only [add_at] at hx271_0 | simp only [Addr.add, Nat.zero_add] at hx271_0 | skip)
                      have hn271_0 : (⟨go12, 0, none⟩ : Addr).block ≠ go10 := (fun e_ => ((HO_8.out.1 _ rfl)) (congrArg some e_))
                      replace hx271_0 := (cell_far (p := ⟨go10, (x9_1 : Int).toNat, none⟩) (by first | (rw [add_block]; exact hn271_0) | (show (Addr.add _ _).block ≠ _; rw [add_block]; exact hn271_0) | exact hn271_0) (.int .i64 (wrap64 ((rd x7_2 x9_1) + (rd x7_2 x10_2))))).trans hx271_0
                      clear hn271_0
                      replace p271 := eq_true p271
                      replace q271 := eq_true q271
                      have p273 : 0 ≤ (x9_1 : Int) := OD
                      have q273 : x9_1 < (x8_2.length : Int) := OD
                      obtain ⟨ad273, e273, hx273_0⟩ := Kd.at_int (Kd.R_reads' HO_8.out).2.2 x9_1 p273 q273
                      obtain rfl : (⟨go12, 0, none⟩ : Addr) = ad273 := (by injection e273)
                      (first | simp only [add_plain] at hx273_0 | simp only [add_at] at hx273_0 | simp only [Addr.add, Nat.zero_add] at hx273_0 | skip)
                      have hn273_0 : (⟨go12, 0, none⟩ : Addr).block ≠ go10 := (fun e_ => ((HO_8.out.1 _ rfl)) (congrArg some e_))
                      replace hx273_0 := (cell_far (p := ⟨go10, (x9_1 : Int).toNat, none⟩) (by first | (rw [add_block]; exact hn273_0) | (show (Addr.add _ _).block ≠ _; rw [add_block]; exact hn273_0) | exact hn273_0) (.int .i64 (wrap64 ((rd x7_2 x9_1) + (rd x7_2 x10_2))))).trans hx273_0
                      clear hn273_0
                      replace p273 := eq_true p273
                      replace q273 := eq_true q273
                      try go_wp2
                      (try simp only [← hl7_2, ← hl8_2])
                      go_roundg k2
                      case measure => have := HK1.out; have := HK2.out; omega
                      case rel => exact ⟨(y270), (x8_2), (wrap64 (x10_2 + 1)), Za, H', ⟨by have := HK1.out; have := HK2.out; omega⟩, ⟨by (try simp only [hl7_1]); (try simp only [hl8_1]); (try simp only [hl7_2]); (try simp only [hl8_2]); (with_reducible repeat (first | apply Kd.R_alloc | apply Kd.R_drewN | apply Kd.R_drew)); exact HQ52.out⟩, ⟨by (try simp only [hl7_1]); (try simp only [hl8_1]); (try simp only [hl7_2]); (try simp only [hl8_2]); (with_reducible repeat (first | apply Kd.R_alloc | apply Kd.R_drewN | apply Kd.R_drew)); exact Kd.R_mono (Kd.R_far (p := ⟨go10, (x9_1 : Int).toNat, none⟩) (Kd.R_mono HO_8.out (fun k_ hk => (⟨hk, fun e_ => hk (by rw [e_]; rfl)⟩ : _ ∧ k_ ≠ go10))) (fun _ hk => hk.2) (.int .i64 (wrap64 ((rd x7_2 x9_1) + (rd x7_2 x10_2))))) (fun _ hk => hk.1)⟩, ⟨by repeat (first | (with_reducible first | exact HB.out | apply below_alloc | apply pw_below_drewN | apply below_drew1 | refine below_set ?_ GB10.out) | exact HB.out)⟩⟩
                   ·rw [if_neg c36] at H
                    exact absurd H (by simp)
                  ·rw [if_neg c34] at H
                   exact absurd H (by simp)
                 ·rw [if_neg c33] at H
                  exact absurd H (by simp)
                ·rw [if_neg c32] at H
                 exact absurd H (by simp)
               ·rw [if_neg c31] at H
                have c31b0 : (x10_2 == ji7) = false := beq_eq_false_iff_ne.mpr c31
                have c31b1 : (x10_2 != ji7) = true := bne_iff_ne.mpr c31
                by_cases c53 : 0 ≤ x9_1
                ·rw [if_pos c53] at H
                 have c53b0 : decide (0 ≤ x9_1) = true := decide_eq_true c53
                 clear c53
                 by_cases c54 : x9_1 < (x7_2.length : Int)
                 ·rw [if_pos c54] at H
                  have c54b0 : decide (x9_1 < (x7_2.length : Int)) = true := decide_eq_true c54
                  clear c54
                  by_cases c55 : x10_2 < (x7_2.length : Int)
                  ·rw [if_pos c55] at H
                   have c55b0 : decide (x10_2 < (x7_2.length : Int)) = true := decide_eq_true c55
                   clear c55
                   obtain ⟨y277, hy277⟩ : ∃ y_ : List Int, y_ = (x7_2.set (x9_1 : Int).toNat (wrap64 ((rd x7_2 x9_1) + (rd x7_2 x10_2)))) := ⟨_, rfl⟩
                   replace H : (if x9_1 < (x8_2.length : Int) then (if (rd x8_2 x9_1) < 0 then (impl_ways.l1 k2 l0 a1 ji7 y277 (x8_2.set (x9_1 : Int).toNat (wrap64 ((rd x8_2 x10_2) + 1))) x9_1 (wrap64 (x10_2 + 1))) else (if (wrap64 ((rd x8_2 x10_2) + 1)) < (rd x8_2 x9_1) then (impl_ways.l1 k2 l0 a1 ji7 y277 (x8_2.set (x9_1 : Int).toNat (wrap64 ((rd x8_2 x10_2) + 1))) x9_1 (wrap64 (x10_2 + 1))) else (impl_ways.l1 k2 l0 a1 ji7 y277 x8_2 x9_1 (wrap64 (x10_2 + 1))))) else (none)) = some (r1, r2) := by first | (rw [hy277]; with_reducible exact H) | (have H2_ := (Option.bind_some _ _).symm.trans H; rw [hy277]; with_reducible exact H2_) | (have H2_ := (Option.bind_some _ _).symm.trans H; with_reducible exact H2_) | with_reducible exact H | (rw [hy277]; exact H) | exact H
                   have Ny277 := Aside0.mk hy277
                   clear hy277
                   by_cases c57 : x9_1 < (x8_2.length : Int)
                   ·rw [if_pos c57] at H
                    have c57b0 : decide (x9_1 < (x8_2.length : Int)) = true := decide_eq_true c57
                    clear c57
                    by_cases c58 : (rd x8_2 x9_1) < 0
                    ·rw [if_pos c58] at H
                     have c58b0 : decide ((rd x8_2 x9_1) < 0) = true := decide_eq_true c58
                     clear c58
                     obtain ⟨y279, hy279⟩ : ∃ y_ : List Int, y_ = (x8_2.set (x9_1 : Int).toNat (wrap64 ((rd x8_2 x10_2) + 1))) := ⟨_, rfl⟩
                     replace H : (impl_ways.l1 k2 l0 a1 ji7 y277 y279 x9_1 (wrap64 (x10_2 + 1))) = some (r1, r2) := by first | (rw [hy279]; with_reducible exact H) | (have H2_ := (Option.bind_some _ _).symm.trans H; rw [hy279]; with_reducible exact H2_) | (have H2_ := (Option.bind_some _ _).symm.trans H; with_reducible exact H2_) | with_reducible exact H | (rw [hy279]; exact H) | exact H
                     have Ny279 := Aside0.mk hy279
                     clear hy279
                     have H' := Aside0.mk H
                     clear H
                     have p266 : 0 ≤ (x10_2 : Int) := OD
                     have q266 : x10_2 < (x8_2.length : Int) := OD
                     obtain ⟨ad266, e266, hx266_0⟩ := Kd.at_int (Kd.R_reads' HO_8.out).2.2 x10_2 p266 q266
                     obtain rfl : (⟨go12, 0, none⟩ : Addr) = ad266 := (by injection e266)
                     (first | simp only [add_plain] at hx266_0 | simp only [add_at] at hx266_0 | simp only [Addr.add, Nat.zero_add] at hx266_0 | skip)
                     replace p266 := eq_true p266
                     replace q266 := eq_true q266
                     have p267 : 0 ≤ (x10_2 : Int) := OD
                     have q267 : x10_2 < (x8_2.length : Int) := OD
                     obtain ⟨ad267, e267, hx267_0⟩ := Kd.at_int (Kd.R_reads' HO_8.out).2.2 x10_2 p267 q267
                     obtain rfl : (⟨go12, 0, none⟩ : Addr) = ad267 := (by injection e267)
                     (first | simp only [add_plain] at hx267_0 | simp only [add_at] at hx267_0 | simp only [Addr.add, Nat.zero_add] at hx267_0 | skip)
                     replace p267 := eq_true p267
                     replace q267 := eq_true q267
                     try go_wp2
                     have n0_ := Aside0.mk (Kd.R_drew HO_7.out)
                     have n1_ := Aside0.mk (Kd.R_drew HO_8.out)
                     have n2_ := Aside0.mk (below_drew1 HB.out)
                     clear HO_7
                     clear HO_8
                     clear HB
                     have HO_7 := n0_
                     have HO_8 := n1_
                     have HB := n2_
                     clear n0_ n1_ n2_
                     have p275 : 0 ≤ (x9_1 : Int) := OD
                     have q275 : x9_1 < (x7_2.length : Int) := OD
                     obtain ⟨ad275, e275, hx275_0⟩ := Kd.at_int (Kd.R_reads' HO_7.out).2.2 x9_1 p275 q275
                     obtain rfl : (⟨go10, 0, none⟩ : Addr) = ad275 := (by injection e275)
                     (first | simp only [add_plain] at hx275_0 | simp only [add_at] at hx275_0 | simp only [Addr.add, Nat.zero_add] at hx275_0 | skip)
                     replace p275 := eq_true p275
                     replace q275 := eq_true q275
                     have p276 : 0 ≤ (x10_2 : Int) := OD
                     have q276 : x10_2 < (x7_2.length : Int) := OD
                     obtain ⟨ad276, e276, hx276_0⟩ := Kd.at_int (Kd.R_reads' HO_7.out).2.2 x10_2 p276 q276
                     obtain rfl : (⟨go10, 0, none⟩ : Addr) = ad276 := (by injection e276)
                     (first | simp only [add_plain] at hx276_0 | simp only [add_at] at hx276_0 | simp only [Addr.add, Nat.zero_add] at hx276_0 | skip)
                     replace p276 := eq_true p276
                     replace q276 := eq_true q276
                     have p56 : 0 ≤ (x9_1 : Int) := OD
                     have q56 : (x9_1 : Int) < ((x7_2.length : Int) : Int) := OD
                     obtain ⟨hx56_0, hf56_0⟩ := Kd.R_celln 0 HO_7.out (x9_1 : Int) p56 q56
                     replace p56 := eq_true p56
                     replace q56 := eq_true q56
                     have HP61 := Kd.R_putn HO_7.out (x9_1 : Int) (wrap64 ((rd x7_2 x9_1) + (rd x7_2 x10_2)))
                     rw [← Ny277.out] at HP61
                     have HQ61 := Aside0.mk HP61
                     clear HP61
                     refine start_ (n := 11) (S := fun w' => w'.cell? ⟨go10, (x9_1).toNat, none⟩ = some (.int .i64 (rd x7_2 x9_1)) ∧ w'.cell? ⟨go10, (x10_2).toNat, none⟩ = some (.int .i64 (rd x7_2 x10_2))) (ds := [10]) #[false, false, false, false, false, false, false, false, false, false, false] (by kernel_rfl) rfl rfl ⟨hx275_0, hx276_0⟩ (fun hHeld => ?_); refine with_tabW impl_ways.tab14 impl_ways.bits14 (fun HT_ HW_ => ?_)
                     generalize wr.drew = w60 at HO_7 HO_8 HB HQ61 hf56_0 hx275_0 hx276_0 hx56_0 hHeld ⊢
                     refine pure_ (i := 0) (N := some 58) (v := ?_) (a' := ?_) #[true, false, false, false, false, false, false, false, false, false, false] rfl rfl (any_of HT_.out (by kernel_rfl)) (fun _ _ _ h => h) (Or.inl ⟨by rfl, ?_⟩) ?_ ?_
                     rotate_left
                     ·intro w'
                      go_simp
                      with_reducible rfl
                     rotate_left
                     ·simp only [Act.put, List.setIfInBounds_toArray, List.set_cons_zero, List.set_cons_succ, i64_w, i32_w]
                      rfl
                     refine pure_ (i := 1) (N := some 59) (v := ?_) (a' := ?_) #[true, true, false, false, false, false, false, false, false, false, false] rfl rfl (any_of HT_.out (by kernel_rfl)) (fun _ _ _ h => h) (Or.inl ⟨by rfl, ?_⟩) ?_ ?_
                     rotate_left
                     ·intro w'
                      go_simp
                      with_reducible rfl
                     rotate_left
                     ·simp only [Act.put, List.setIfInBounds_toArray, List.set_cons_zero, List.set_cons_succ, i64_w, i32_w]
                      rfl
                     refine pure_ (i := 2) (N := some 60) (v := ?_) (a' := ?_) #[true, true, true, false, false, false, false, false, false, false, false] rfl rfl (any_of HT_.out (by kernel_rfl)) (fun _ _ _ h => h) (Or.inl ⟨by rfl, ?_⟩) ?_ ?_
                     rotate_left
                     ·intro w'
                      go_simp
                      with_reducible rfl
                     rotate_left
                     ·simp only [Act.put, List.setIfInBounds_toArray, List.set_cons_zero, List.set_cons_succ, i64_w, i32_w]
                      rfl
                     refine pure_ (i := 4) (N := some 62) (v := ?_) (a' := ?_) #[true, true, true, false, true, false, false, false, false, false, false] rfl rfl (any_of HT_.out (by kernel_rfl)) (fun _ _ _ h => h) (Or.inl ⟨by rfl, ?_⟩) ?_ ?_
                     rotate_left
                     ·intro w'
                      go_simp
                      with_reducible rfl
                     rotate_left
                     ·simp only [Act.put, List.setIfInBounds_toArray, List.set_cons_zero, List.set_cons_succ, i64_w, i32_w]
                      rfl
                     refine pure_ (i := 5) (N := some 63) (v := ?_) (a' := ?_) #[true, true, true, false, true, true, false, false, false, false, false] rfl rfl (any_of HT_.out (by kernel_rfl)) (fun _ _ _ h => h) (Or.inl ⟨by rfl, ?_⟩) ?_ ?_
                     rotate_left
                     ·intro w'
                      go_simp
                      with_reducible rfl
                     rotate_left
                     ·simp only [Act.put, List.setIfInBounds_toArray, List.set_cons_zero, List.set_cons_succ, i64_w, i32_w]
                      rfl
                     refine pure_ (i := 6) (N := some 64) (v := ?_) (a' := ?_) #[true, true, true, false, true, true, true, false, false, false, false] rfl rfl (any_of HT_.out (by kernel_rfl)) (fun _ _ _ h => h) (Or.inl ⟨by rfl, ?_⟩) ?_ ?_
                     rotate_left
                     ·intro w'
                      go_simp
                      with_reducible rfl
                     rotate_left
                     ·simp only [Act.put, List.setIfInBounds_toArray, List.set_cons_zero, List.set_cons_succ, i64_w, i32_w]
                      rfl
                     refine take_ (i := 3) (N := some 61) (v := ?_) (a' := ?_) #[true, true, true, true, true, true, true, false, false, false, false] rfl rfl (take_ofW HT_.out HW_.out (by kernel_rfl)) (fun _ _ _ h => h) (Or.inl ⟨by rfl, ?_⟩) hHeld ?_ ?_
                     rotate_left
                     ·rintro w' ⟨s0, s1⟩
                      go_simp
                      with_reducible rfl
                     rotate_left
                     ·simp only [Act.put, List.setIfInBounds_toArray, List.set_cons_zero, List.set_cons_succ, i64_w, i32_w]
                      rfl
                     refine take_ (i := 7) (N := some 65) (v := ?_) (a' := ?_) #[true, true, true, true, true, true, true, true, false, false, false] rfl rfl (take_ofW HT_.out HW_.out (by kernel_rfl)) (fun _ _ _ h => h) (Or.inl ⟨by rfl, ?_⟩) hHeld ?_ ?_
                     rotate_left
                     ·rintro w' ⟨s0, s1⟩
                      go_simp
                      with_reducible rfl
                     rotate_left
                     ·simp only [Act.put, List.setIfInBounds_toArray, List.set_cons_zero, List.set_cons_succ, i64_w, i32_w]
                      rfl
                     refine pure_ (i := 8) (N := some 66) (v := ?_) (a' := ?_) #[true, true, true, true, true, true, true, true, true, false, false] rfl rfl (any_of HT_.out (by kernel_rfl)) (fun _ _ _ h => h) (Or.inl ⟨by rfl, ?_⟩) ?_ ?_
                     rotate_left
                     ·intro w'
                      go_simp
                      with_reducible rfl
                     rotate_left
                     ·simp only [Act.put, List.setIfInBounds_toArray, List.set_cons_zero, List.set_cons_succ, i64_w, i32_w]
                      rfl
                     refine pure_ (i := 9) (N := some 67) (v := ?_) (a' := ?_) #[true, true, true, true, true, true, true, true, true, true, false] rfl rfl (any_of HT_.out (by kernel_rfl)) (fun _ _ _ h => h) (Or.inl ⟨by rfl, ?_⟩) ?_ ?_
                     rotate_left
                     ·intro w'
                      go_simp
                      with_reducible rfl
                     rotate_left
                     ·simp only [Act.put, List.setIfInBounds_toArray, List.set_cons_zero, List.set_cons_succ, i64_w, i32_w]
                      rfl
                     refine last_ (i := 10) (N := none) #[true, true, true, true, true, true, true, true, true, true, true] rfl rfl (one_of HT_.out (by kernel_rfl)) (by decide) (fun K hK => ?_)
                     refine skip_ (w1 := ?_) (by rfl) rfl ?_ ?_
                     rotate_left
                     ·go_simp
                      rfl
                     refine hK.out _ _ ?_
                     clear hK K
                     refine done_ (done_of HT_.out (by kernel_rfl)) ?_
                     have n0_ : Aside0 (Kd.R (Kd.int .i64) 3 (w60.setCell ⟨go10, (x9_1 : Int).toNat, none⟩ (.int .i64 (wrap64 ((rd x7_2 x9_1) + (rd x7_2 x10_2))))) w.heap.size (fun k_ => some k_ ≠ (.slice (some ⟨go12, 0, none⟩) x8_2.length co12 : Value).ownBlock) (.slice (some ⟨go10, 0, none⟩) x7_2.length co10) y277) := ⟨RS HQ61.out⟩
                     have n1_ : Aside0 (Kd.R (Kd.int .i64) 3 (w60.setCell ⟨go10, (x9_1 : Int).toNat, none⟩ (.int .i64 (wrap64 ((rd x7_2 x9_1) + (rd x7_2 x10_2))))) w.heap.size (fun k_ => some k_ ≠ (.slice (some ⟨go10, 0, none⟩) x7_2.length co10 : Value).ownBlock) (.slice (some ⟨go12, 0, none⟩) x8_2.length co12) x8_2) := ⟨RS (Kd.R_mono (Kd.R_far (p := ⟨go10, (x9_1 : Int).toNat, none⟩) (Kd.R_mono HO_8.out (fun k_ hk => (⟨hk, fun e_ => hk (by rw [e_]; rfl)⟩ : _ ∧ k_ ≠ go10))) (fun _ hk => hk.2) (.int .i64 (wrap64 ((rd x7_2 x9_1) + (rd x7_2 x10_2))))) (fun _ hk => hk.1))⟩
                     have n2_ : Aside0 (Below w.heap.size w (w60.setCell ⟨go10, (x9_1 : Int).toNat, none⟩ (.int .i64 (wrap64 ((rd x7_2 x9_1) + (rd x7_2 x10_2)))))) := ⟨by repeat (first | (with_reducible first | exact HB.out | apply below_alloc | apply pw_below_drewN | apply below_drew1 | refine below_set ?_ GB10.out) | exact HB.out)⟩
                     (try clear HO_7)
                     (try clear HO_8)
                     (try clear HB)
                     generalize (w60.setCell ⟨go10, (x9_1 : Int).toNat, none⟩ (.int .i64 (wrap64 ((rd x7_2 x9_1) + (rd x7_2 x10_2))))) = w62 at n0_ n1_ n2_ ⊢
                     have HO_7 := n0_
                     have HO_8 := n1_
                     have HB := n2_
                     clear n0_ n1_ n2_
                     have p278 : 0 ≤ (x9_1 : Int) := OD
                     have q278 : x9_1 < (x8_2.length : Int) := OD
                     obtain ⟨ad278, e278, hx278_0⟩ := Kd.at_int (Kd.R_reads' HO_8.out).2.2 x9_1 p278 q278
                     obtain rfl : (⟨go12, 0, none⟩ : Addr) = ad278 := (by injection e278)
                     (first | simp only [add_plain] at hx278_0 | simp only [add_at] at hx278_0 | simp only [Addr.add, Nat.zero_add] at hx278_0 | skip)
                     replace p278 := eq_true p278
                     replace q278 := eq_true q278
                     have p59 : 0 ≤ (x9_1 : Int) := OD
                     have q59 : (x9_1 : Int) < ((x8_2.length : Int) : Int) := OD
                     obtain ⟨hx59_0, hf59_0⟩ := Kd.R_celln 0 HO_8.out (x9_1 : Int) p59 q59
                     replace p59 := eq_true p59
                     replace q59 := eq_true q59
                     obtain ⟨hy63_, hz63_⟩ := Kd.R_celln 0 HO_8.out (x9_1 : Int) OD OD
                     have HP63 := Kd.R_putg HO_8.out (x9_1 : Int) (wrap64 ((rd x8_2 x10_2) + 1))
                     try go_wp2_with (first | ((with_reducible refine gate_store (t := 3) (p := 84) rfl ?_); refine store_event (t := 3) (p := 84) (v := ?vo_w64) (w1 := (w62.setCell ⟨go12, (x9_1 : Int).toNat, none⟩ (.int .i64 (wrap64 ((rd x8_2 x10_2) + 1))))) ?hg ?ho ?hn ?hr ?_; (case ho => rfl); (case hg => rfl); (case hn => rfl); (case hr => first | (go_simp; done) | (go_simp; rfl)); intro w64 hw; have hg : w62.grownBy w64 (some go12) := (by rw [hw]; exact HP63.2); have hp_ : Kd.R (Kd.int .i64) 3 w64 w.heap.size (fun k_ => some k_ ≠ (.slice (some ⟨go10, 0, none⟩) x7_2.length co10 : Value).ownBlock) (.slice (some ⟨go12, 0, none⟩) x8_2.length co12) y279 := (by rw [hw, Ny279.out]; exact HP63.1); clear HP63; have n0_ := Aside0.mk (Kd.R_after (v := (.slice (some ⟨go12, 0, none⟩) x8_2.length co12)) (v1 := (.slice (some ⟨go12, 0, none⟩) x8_2.length co12)) (ok := (fun _ => True)) (RS (Kd.R_mono HO_7.out (fun _ hk => ⟨trivial, hk⟩))) hg (.inl rfl)); have n1_ := Aside0.mk (hp_); have n2_ := Aside0.mk ((by rw [hw]; exact below_set (HB.out) GB12.out : Below w.heap.size w w64)); clear HO_7; clear HO_8; clear HB; have HO_7 := n0_; have HO_8 := n1_; have HB := n2_; clear n0_ n1_ n2_; clear hg hw hp_))
                     (try simp only [← hl7_2, ← hl8_2])
                     go_roundg k2
                     case measure => have := HK1.out; have := HK2.out; omega
                     case rel => exact ⟨(y277), (y279), (wrap64 (x10_2 + 1)), Za, H', ⟨by have := HK1.out; have := HK2.out; omega⟩, ⟨by (try simp only [hl7_1]); (try simp only [hl8_1]); (try simp only [hl7_2]); (try simp only [hl8_2]); (with_reducible repeat (first | apply Kd.R_alloc | apply Kd.R_drewN | apply Kd.R_drew)); exact Kd.R_mono HO_7.out (fun _ hk => hk.2)⟩, ⟨by (try simp only [hl7_1]); (try simp only [hl8_1]); (try simp only [hl7_2]); (try simp only [hl8_2]); (with_reducible repeat (first | apply Kd.R_alloc | apply Kd.R_drewN | apply Kd.R_drew)); exact HO_8.out⟩, ⟨BS HB.out⟩⟩
                    ·rw [if_neg c58] at H
                     have c58b0 : decide ((rd x8_2 x9_1) < 0) = false := decide_eq_false c58
                     clear c58
                     by_cases c65 : (wrap64 ((rd x8_2 x10_2) + 1)) < (rd x8_2 x9_1)
                     ·rw [if_pos c65] at H
                      have c65b0 : decide ((wrap64 ((rd x8_2 x10_2) + 1)) < (rd x8_2 x9_1)) = true := decide_eq_true c65
                      clear c65
                      obtain ⟨y281, hy281⟩ : ∃ y_ : List Int, y_ = (x8_2.set (x9_1 : Int).toNat (wrap64 ((rd x8_2 x10_2) + 1))) := ⟨_, rfl⟩
                      replace H : (impl_ways.l1 k2 l0 a1 ji7 y277 y281 x9_1 (wrap64 (x10_2 + 1))) = some (r1, r2) := by first | (rw [hy281]; with_reducible exact H) | (have H2_ := (Option.bind_some _ _).symm.trans H; rw [hy281]; with_reducible exact H2_) | (have H2_ := (Option.bind_some _ _).symm.trans H; with_reducible exact H2_) | with_reducible exact H | (rw [hy281]; exact H) | exact H
                      have Ny281 := Aside0.mk hy281
                      clear hy281
                      have H' := Aside0.mk H
                      clear H
                      have p266 : 0 ≤ (x10_2 : Int) := OD
                      have q266 : x10_2 < (x8_2.length : Int) := OD
                      obtain ⟨ad266, e266, hx266_0⟩ := Kd.at_int (Kd.R_reads' HO_8.out).2.2 x10_2 p266 q266
                      obtain rfl : (⟨go12, 0, none⟩ : Addr) = ad266 := (by injection e266)
                      (first | simp only [add_plain] at hx266_0 | simp only [add_at] at hx266_0 | simp only [Addr.add, Nat.zero_add] at hx266_0 | skip)
                      replace p266 := eq_true p266
                      replace q266 := eq_true q266
                      have p267 : 0 ≤ (x10_2 : Int) := OD
                      have q267 : x10_2 < (x8_2.length : Int) := OD
                      obtain ⟨ad267, e267, hx267_0⟩ := Kd.at_int (Kd.R_reads' HO_8.out).2.2 x10_2 p267 q267
                      obtain rfl : (⟨go12, 0, none⟩ : Addr) = ad267 := (by injection e267)
                      (first | simp only [add_plain] at hx267_0 | simp only [add_at] at hx267_0 | simp only [Addr.add, Nat.zero_add] at hx267_0 | skip)
                      replace p267 := eq_true p267
                      replace q267 := eq_true q267
                      try go_wp2
                      have n0_ := Aside0.mk (Kd.R_drew HO_7.out)
                      have n1_ := Aside0.mk (Kd.R_drew HO_8.out)
                      have n2_ := Aside0.mk (below_drew1 HB.out)
                      clear HO_7
                      clear HO_8
                      clear HB
                      have HO_7 := n0_
                      have HO_8 := n1_
                      have HB := n2_
                      clear n0_ n1_ n2_
                      have p275 : 0 ≤ (x9_1 : Int) := OD
                      have q275 : x9_1 < (x7_2.length : Int) := OD
                      obtain ⟨ad275, e275, hx275_0⟩ := Kd.at_int (Kd.R_reads' HO_7.out).2.2 x9_1 p275 q275
                      obtain rfl : (⟨go10, 0, none⟩ : Addr) = ad275 := (by injection e275)
                      (first | simp only [add_plain] at hx275_0 | simp only [add_at] at hx275_0 | simp only [Addr.add, Nat.zero_add] at hx275_0 | skip)
                      replace p275 := eq_true p275
                      replace q275 := eq_true q275
                      have p276 : 0 ≤ (x10_2 : Int) := OD
                      have q276 : x10_2 < (x7_2.length : Int) := OD
                      obtain ⟨ad276, e276, hx276_0⟩ := Kd.at_int (Kd.R_reads' HO_7.out).2.2 x10_2 p276 q276
                      obtain rfl : (⟨go10, 0, none⟩ : Addr) = ad276 := (by injection e276)
                      (first | simp only [add_plain] at hx276_0 | simp only [add_at] at hx276_0 | simp only [Addr.add, Nat.zero_add] at hx276_0 | skip)
                      replace p276 := eq_true p276
                      replace q276 := eq_true q276
                      have p56 : 0 ≤ (x9_1 : Int) := OD
                      have q56 : (x9_1 : Int) < ((x7_2.length : Int) : Int) := OD
                      obtain ⟨hx56_0, hf56_0⟩ := Kd.R_celln 0 HO_7.out (x9_1 : Int) p56 q56
                      replace p56 := eq_true p56
                      replace q56 := eq_true q56
                      have HP68 := Kd.R_putn HO_7.out (x9_1 : Int) (wrap64 ((rd x7_2 x9_1) + (rd x7_2 x10_2)))
                      rw [← Ny277.out] at HP68
                      have HQ68 := Aside0.mk HP68
                      clear HP68
                      refine start_ (n := 11) (S := fun w' => w'.cell? ⟨go10, (x9_1).toNat, none⟩ = some (.int .i64 (rd x7_2 x9_1)) ∧ w'.cell? ⟨go10, (x10_2).toNat, none⟩ = some (.int .i64 (rd x7_2 x10_2))) (ds := [10]) #[false, false, false, false, false, false, false, false, false, false, false] (by kernel_rfl) rfl rfl ⟨hx275_0, hx276_0⟩ (fun hHeld => ?_); refine with_tabW impl_ways.tab14 impl_ways.bits14 (fun HT_ HW_ => ?_)
                      generalize wr.drew = w67 at HO_7 HO_8 HB HQ68 hf56_0 hx275_0 hx276_0 hx56_0 hHeld ⊢
                      refine pure_ (i := 0) (N := some 58) (v := ?_) (a' := ?_) #[true, false, false, false, false, false, false, false, false, false, false] rfl rfl (any_of HT_.out (by kernel_rfl)) (fun _ _ _ h => h) (Or.inl ⟨by rfl, ?_⟩) ?_ ?_
                      rotate_left
                      ·intro w'
                       go_simp
                       with_reducible rfl
                      rotate_left
                      ·simp only [Act.put, List.setIfInBounds_toArray, List.set_cons_zero, List.set_cons_succ, i64_w, i32_w]
                       rfl
                      refine pure_ (i := 1) (N := some 59) (v := ?_) (a' := ?_) #[true, true, false, false, false, false, false, false, false, false, false] rfl rfl (any_of HT_.out (by kernel_rfl)) (fun _ _ _ h => h) (Or.inl ⟨by rfl, ?_⟩) ?_ ?_
                      rotate_left
                      ·intro w'
                       go_simp
                       with_reducible rfl
                      rotate_left
                      ·simp only [Act.put, List.setIfInBounds_toArray, List.set_cons_zero, List.set_cons_succ, i64_w, i32_w]
                       rfl
                      refine pure_ (i := 2) (N := some 60) (v := ?_) (a' := ?_) #[true, true, true, false, false, false, false, false, false, false, false] rfl rfl (any_of HT_.out (by kernel_rfl)) (fun _ _ _ h => h) (Or.inl ⟨by rfl, ?_⟩) ?_ ?_
                      rotate_left
                      ·intro w'
                       go_simp
                       with_reducible rfl
                      rotate_left
                      ·simp only [Act.put, List.setIfInBounds_toArray, List.set_cons_zero, List.set_cons_succ, i64_w, i32_w]
                       rfl
                      refine pure_ (i := 4) (N := some 62) (v := ?_) (a' := ?_) #[true, true, true, false, true, false, false, false, false, false, false] rfl rfl (any_of HT_.out (by kernel_rfl)) (fun _ _ _ h => h) (Or.inl ⟨by rfl, ?_⟩) ?_ ?_
                      rotate_left
                      ·intro w'
                       go_simp
                       with_reducible rfl
                      rotate_left
                      ·simp only [Act.put, List.setIfInBounds_toArray, List.set_cons_zero, List.set_cons_succ, i64_w, i32_w]
                       rfl
                      refine pure_ (i := 5) (N := some 63) (v := ?_) (a' := ?_) #[true, true, true, false, true, true, false, false, false, false, false] rfl rfl (any_of HT_.out (by kernel_rfl)) (fun _ _ _ h => h) (Or.inl ⟨by rfl, ?_⟩) ?_ ?_
                      rotate_left
                      ·intro w'
                       go_simp
                       with_reducible rfl
                      rotate_left
                      ·simp only [Act.put, List.setIfInBounds_toArray, List.set_cons_zero, List.set_cons_succ, i64_w, i32_w]
                       rfl
                      refine pure_ (i := 6) (N := some 64) (v := ?_) (a' := ?_) #[true, true, true, false, true, true, true, false, false, false, false] rfl rfl (any_of HT_.out (by kernel_rfl)) (fun _ _ _ h => h) (Or.inl ⟨by rfl, ?_⟩) ?_ ?_
                      rotate_left
                      ·intro w'
                       go_simp
                       with_reducible rfl
                      rotate_left
                      ·simp only [Act.put, List.setIfInBounds_toArray, List.set_cons_zero, List.set_cons_succ, i64_w, i32_w]
                       rfl
                      refine take_ (i := 3) (N := some 61) (v := ?_) (a' := ?_) #[true, true, true, true, true, true, true, false, false, false, false] rfl rfl (take_ofW HT_.out HW_.out (by kernel_rfl)) (fun _ _ _ h => h) (Or.inl ⟨by rfl, ?_⟩) hHeld ?_ ?_
                      rotate_left
                      ·rintro w' ⟨s0, s1⟩
                       go_simp
                       with_reducible rfl
                      rotate_left
                      ·simp only [Act.put, List.setIfInBounds_toArray, List.set_cons_zero, List.set_cons_succ, i64_w, i32_w]
                       rfl
                      refine take_ (i := 7) (N := some 65) (v := ?_) (a' := ?_) #[true, true, true, true, true, true, true, true, false, false, false] rfl rfl (take_ofW HT_.out HW_.out (by kernel_rfl)) (fun _ _ _ h => h) (Or.inl ⟨by rfl, ?_⟩) hHeld ?_ ?_
                      rotate_left
                      ·rintro w' ⟨s0, s1⟩
                       go_simp
                       with_reducible rfl
                      rotate_left
                      ·simp only [Act.put, List.setIfInBounds_toArray, List.set_cons_zero, List.set_cons_succ, i64_w, i32_w]
                       rfl
                      refine pure_ (i := 8) (N := some 66) (v := ?_) (a' := ?_) #[true, true, true, true, true, true, true, true, true, false, false] rfl rfl (any_of HT_.out (by kernel_rfl)) (fun _ _ _ h => h) (Or.inl ⟨by rfl, ?_⟩) ?_ ?_
                      rotate_left
                      ·intro w'
                       go_simp
                       with_reducible rfl
                      rotate_left
                      ·simp only [Act.put, List.setIfInBounds_toArray, List.set_cons_zero, List.set_cons_succ, i64_w, i32_w]
                       rfl
                      refine pure_ (i := 9) (N := some 67) (v := ?_) (a' := ?_) #[true, true, true, true, true, true, true, true, true, true, false] rfl rfl (any_of HT_.out (by kernel_rfl)) (fun _ _ _ h => h) (Or.inl ⟨by rfl, ?_⟩) ?_ ?_
                      rotate_left
                      ·intro w'
                       go_simp
                       with_reducible rfl
                      rotate_left
                      ·simp only [Act.put, List.setIfInBounds_toArray, List.set_cons_zero, List.set_cons_succ, i64_w, i32_w]
                       rfl
                      refine last_ (i := 10) (N := none) #[true, true, true, true, true, true, true, true, true, true, true] rfl rfl (one_of HT_.out (by kernel_rfl)) (by decide) (fun K hK => ?_)
                      refine skip_ (w1 := ?_) (by rfl) rfl ?_ ?_
                      rotate_left
                      ·go_simp
                       rfl
                      refine hK.out _ _ ?_
                      clear hK K
                      refine done_ (done_of HT_.out (by kernel_rfl)) ?_
                      have n0_ : Aside0 (Kd.R (Kd.int .i64) 3 (w67.setCell ⟨go10, (x9_1 : Int).toNat, none⟩ (.int .i64 (wrap64 ((rd x7_2 x9_1) + (rd x7_2 x10_2))))) w.heap.size (fun k_ => some k_ ≠ (.slice (some ⟨go12, 0, none⟩) x8_2.length co12 : Value).ownBlock) (.slice (some ⟨go10, 0, none⟩) x7_2.length co10) y277) := ⟨RS HQ68.out⟩
                      have n1_ : Aside0 (Kd.R (Kd.int .i64) 3 (w67.setCell ⟨go10, (x9_1 : Int).toNat, none⟩ (.int .i64 (wrap64 ((rd x7_2 x9_1) + (rd x7_2 x10_2))))) w.heap.size (fun k_ => some k_ ≠ (.slice (some ⟨go10, 0, none⟩) x7_2.length co10 : Value).ownBlock) (.slice (some ⟨go12, 0, none⟩) x8_2.length co12) x8_2) := ⟨RS (Kd.R_mono (Kd.R_far (p := ⟨go10, (x9_1 : Int).toNat, none⟩) (Kd.R_mono HO_8.out (fun k_ hk => (⟨hk, fun e_ => hk (by rw [e_]; rfl)⟩ : _ ∧ k_ ≠ go10))) (fun _ hk => hk.2) (.int .i64 (wrap64 ((rd x7_2 x9_1) + (rd x7_2 x10_2))))) (fun _ hk => hk.1))⟩
                      have n2_ : Aside0 (Below w.heap.size w (w67.setCell ⟨go10, (x9_1 : Int).toNat, none⟩ (.int .i64 (wrap64 ((rd x7_2 x9_1) + (rd x7_2 x10_2)))))) := ⟨by repeat (first | (with_reducible first | exact HB.out | apply below_alloc | apply pw_below_drewN | apply below_drew1 | refine below_set ?_ GB10.out) | exact HB.out)⟩
                      (try clear HO_7)
                      (try clear HO_8)
                      (try clear HB)
                      generalize (w67.setCell ⟨go10, (x9_1 : Int).toNat, none⟩ (.int .i64 (wrap64 ((rd x7_2 x9_1) + (rd x7_2 x10_2))))) = w69 at n0_ n1_ n2_ ⊢
                      have HO_7 := n0_
                      have HO_8 := n1_
                      have HB := n2_
                      clear n0_ n1_ n2_
                      have p278 : 0 ≤ (x9_1 : Int) := OD
                      have q278 : x9_1 < (x8_2.length : Int) := OD
                      obtain ⟨ad278, e278, hx278_0⟩ := Kd.at_int (Kd.R_reads' HO_8.out).2.2 x9_1 p278 q278
                      obtain rfl : (⟨go12, 0, none⟩ : Addr) = ad278 := (by injection e278)
                      (first | simp only [add_plain] at hx278_0 | simp only [add_at] at hx278_0 | simp only [Addr.add, Nat.zero_add] at hx278_0 | skip)
                      replace p278 := eq_true p278
                      replace q278 := eq_true q278
                      have p280 : 0 ≤ (x9_1 : Int) := OD
                      have q280 : x9_1 < (x8_2.length : Int) := OD
                      obtain ⟨ad280, e280, hx280_0⟩ := Kd.at_int (Kd.R_reads' HO_8.out).2.2 x9_1 p280 q280
                      obtain rfl : (⟨go12, 0, none⟩ : Addr) = ad280 := (by injection e280)
                      (first | simp only [add_plain] at hx280_0 | simp only [add_at] at hx280_0 | simp only [Addr.add, Nat.zero_add] at hx280_0 | skip)
                      replace p280 := eq_true p280
                      replace q280 := eq_true q280
                      have p66 : 0 ≤ (x9_1 : Int) := OD
                      have q66 : (x9_1 : Int) < ((x8_2.length : Int) : Int) := OD
                      obtain ⟨hx66_0, hf66_0⟩ := Kd.R_celln 0 HO_8.out (x9_1 : Int) p66 q66
                      replace p66 := eq_true p66
                      replace q66 := eq_true q66
                      obtain ⟨hy70_, hz70_⟩ := Kd.R_celln 0 HO_8.out (x9_1 : Int) OD OD
                      have HP70 := Kd.R_putg HO_8.out (x9_1 : Int) (wrap64 ((rd x8_2 x10_2) + 1))
                      try go_wp2_with (first | ((with_reducible refine gate_store (t := 3) (p := 84) rfl ?_); refine store_event (t := 3) (p := 84) (v := ?vo_w71) (w1 := (w69.setCell ⟨go12, (x9_1 : Int).toNat, none⟩ (.int .i64 (wrap64 ((rd x8_2 x10_2) + 1))))) ?hg ?ho ?hn ?hr ?_; (case ho => rfl); (case hg => rfl); (case hn => rfl); (case hr => first | (go_simp; done) | (go_simp; rfl)); intro w71 hw; have hg : w69.grownBy w71 (some go12) := (by rw [hw]; exact HP70.2); have hp_ : Kd.R (Kd.int .i64) 3 w71 w.heap.size (fun k_ => some k_ ≠ (.slice (some ⟨go10, 0, none⟩) x7_2.length co10 : Value).ownBlock) (.slice (some ⟨go12, 0, none⟩) x8_2.length co12) y281 := (by rw [hw, Ny281.out]; exact HP70.1); clear HP70; have n0_ := Aside0.mk (Kd.R_after (v := (.slice (some ⟨go12, 0, none⟩) x8_2.length co12)) (v1 := (.slice (some ⟨go12, 0, none⟩) x8_2.length co12)) (ok := (fun _ => True)) (RS (Kd.R_mono HO_7.out (fun _ hk => ⟨trivial, hk⟩))) hg (.inl rfl)); have n1_ := Aside0.mk (hp_); have n2_ := Aside0.mk ((by rw [hw]; exact below_set (HB.out) GB12.out : Below w.heap.size w w71)); clear HO_7; clear HO_8; clear HB; have HO_7 := n0_; have HO_8 := n1_; have HB := n2_; clear n0_ n1_ n2_; clear hg hw hp_))
                      (try simp only [← hl7_2, ← hl8_2])
                      go_roundg k2
                      case measure => have := HK1.out; have := HK2.out; omega
                      case rel => exact ⟨(y277), (y281), (wrap64 (x10_2 + 1)), Za, H', ⟨by have := HK1.out; have := HK2.out; omega⟩, ⟨by (try simp only [hl7_1]); (try simp only [hl8_1]); (try simp only [hl7_2]); (try simp only [hl8_2]); (with_reducible repeat (first | apply Kd.R_alloc | apply Kd.R_drewN | apply Kd.R_drew)); exact Kd.R_mono HO_7.out (fun _ hk => hk.2)⟩, ⟨by (try simp only [hl7_1]); (try simp only [hl8_1]); (try simp only [hl7_2]); (try simp only [hl8_2]); (with_reducible repeat (first | apply Kd.R_alloc | apply Kd.R_drewN | apply Kd.R_drew)); exact HO_8.out⟩, ⟨BS HB.out⟩⟩
                     ·rw [if_neg c65] at H
                      have c65b0 : decide ((wrap64 ((rd x8_2 x10_2) + 1)) < (rd x8_2 x9_1)) = false := decide_eq_false c65
                      clear c65
                      have H' := Aside0.mk H
                      clear H
                      have p266 : 0 ≤ (x10_2 : Int) := OD
                      have q266 : x10_2 < (x8_2.length : Int) := OD
                      obtain ⟨ad266, e266, hx266_0⟩ := Kd.at_int (Kd.R_reads' HO_8.out).2.2 x10_2 p266 q266
                      obtain rfl : (⟨go12, 0, none⟩ : Addr) = ad266 := (by injection e266)
                      (first | simp only [add_plain] at hx266_0 | simp only [add_at] at hx266_0 | simp only [Addr.add, Nat.zero_add] at hx266_0 | skip)
                      replace p266 := eq_true p266
                      replace q266 := eq_true q266
                      have p267 : 0 ≤ (x10_2 : Int) := OD
                      have q267 : x10_2 < (x8_2.length : Int) := OD
                      obtain ⟨ad267, e267, hx267_0⟩ := Kd.at_int (Kd.R_reads' HO_8.out).2.2 x10_2 p267 q267
                      obtain rfl : (⟨go12, 0, none⟩ : Addr) = ad267 := (by injection e267)
                      (first | simp only [add_plain] at hx267_0 | simp only [add_at] at hx267_0 | simp only [Addr.add, Nat.zero_add] at hx267_0 | skip)
                      replace p267 := eq_true p267
                      replace q267 := eq_true q267
                      try go_wp2
                      have n0_ := Aside0.mk (Kd.R_drew HO_7.out)
                      have n1_ := Aside0.mk (Kd.R_drew HO_8.out)
                      have n2_ := Aside0.mk (below_drew1 HB.out)
                      clear HO_7
                      clear HO_8
                      clear HB
                      have HO_7 := n0_
                      have HO_8 := n1_
                      have HB := n2_
                      clear n0_ n1_ n2_
                      have p275 : 0 ≤ (x9_1 : Int) := OD
                      have q275 : x9_1 < (x7_2.length : Int) := OD
                      obtain ⟨ad275, e275, hx275_0⟩ := Kd.at_int (Kd.R_reads' HO_7.out).2.2 x9_1 p275 q275
                      obtain rfl : (⟨go10, 0, none⟩ : Addr) = ad275 := (by injection e275)
                      (first | simp only [add_plain] at hx275_0 | simp only [add_at] at hx275_0 | simp only [Addr.add, Nat.zero_add] at hx275_0 | skip)
                      replace p275 := eq_true p275
                      replace q275 := eq_true q275
                      have p276 : 0 ≤ (x10_2 : Int) := OD
                      have q276 : x10_2 < (x7_2.length : Int) := OD
                      obtain ⟨ad276, e276, hx276_0⟩ := Kd.at_int (Kd.R_reads' HO_7.out).2.2 x10_2 p276 q276
                      obtain rfl : (⟨go10, 0, none⟩ : Addr) = ad276 := (by injection e276)
                      (first | simp only [add_plain] at hx276_0 | simp only [add_at] at hx276_0 | simp only [Addr.add, Nat.zero_add] at hx276_0 | skip)
                      replace p276 := eq_true p276
                      replace q276 := eq_true q276
                      have p56 : 0 ≤ (x9_1 : Int) := OD
                      have q56 : (x9_1 : Int) < ((x7_2.length : Int) : Int) := OD
                      obtain ⟨hx56_0, hf56_0⟩ := Kd.R_celln 0 HO_7.out (x9_1 : Int) p56 q56
                      replace p56 := eq_true p56
                      replace q56 := eq_true q56
                      have HP73 := Kd.R_putn HO_7.out (x9_1 : Int) (wrap64 ((rd x7_2 x9_1) + (rd x7_2 x10_2)))
                      rw [← Ny277.out] at HP73
                      have HQ73 := Aside0.mk HP73
                      clear HP73
                      refine start_ (n := 11) (S := fun w' => w'.cell? ⟨go10, (x9_1).toNat, none⟩ = some (.int .i64 (rd x7_2 x9_1)) ∧ w'.cell? ⟨go10, (x10_2).toNat, none⟩ = some (.int .i64 (rd x7_2 x10_2))) (ds := [10]) #[false, false, false, false, false, false, false, false, false, false, false] (by kernel_rfl) rfl rfl ⟨hx275_0, hx276_0⟩ (fun hHeld => ?_); refine with_tabW impl_ways.tab14 impl_ways.bits14 (fun HT_ HW_ => ?_)
                      generalize wr.drew = w72 at HO_7 HO_8 HB HQ73 hf56_0 hx275_0 hx276_0 hx56_0 hHeld ⊢
                      refine pure_ (i := 0) (N := some 58) (v := ?_) (a' := ?_) #[true, false, false, false, false, false, false, false, false, false, false] rfl rfl (any_of HT_.out (by kernel_rfl)) (fun _ _ _ h => h) (Or.inl ⟨by rfl, ?_⟩) ?_ ?_
                      rotate_left
                      ·intro w'
                       go_simp
                       with_reducible rfl
                      rotate_left
                      ·simp only [Act.put, List.setIfInBounds_toArray, List.set_cons_zero, List.set_cons_succ, i64_w, i32_w]
                       rfl
                      refine pure_ (i := 1) (N := some 59) (v := ?_) (a' := ?_) #[true, true, false, false, false, false, false, false, false, false, false] rfl rfl (any_of HT_.out (by kernel_rfl)) (fun _ _ _ h => h) (Or.inl ⟨by rfl, ?_⟩) ?_ ?_
                      rotate_left
                      ·intro w'
                       go_simp
                       with_reducible rfl
                      rotate_left
                      ·simp only [Act.put, List.setIfInBounds_toArray, List.set_cons_zero, List.set_cons_succ, i64_w, i32_w]
                       rfl
                      refine pure_ (i := 2) (N := some 60) (v := ?_) (a' := ?_) #[true, true, true, false, false, false, false, false, false, false, false] rfl rfl (any_of HT_.out (by kernel_rfl)) (fun _ _ _ h => h) (Or.inl ⟨by rfl, ?_⟩) ?_ ?_
                      rotate_left
                      ·intro w'
                       go_simp
                       with_reducible rfl
                      rotate_left
                      ·simp only [Act.put, List.setIfInBounds_toArray, List.set_cons_zero, List.set_cons_succ, i64_w, i32_w]
                       rfl
                      refine pure_ (i := 4) (N := some 62) (v := ?_) (a' := ?_) #[true, true, true, false, true, false, false, false, false, false, false] rfl rfl (any_of HT_.out (by kernel_rfl)) (fun _ _ _ h => h) (Or.inl ⟨by rfl, ?_⟩) ?_ ?_
                      rotate_left
                      ·intro w'
                       go_simp
                       with_reducible rfl
                      rotate_left
                      ·simp only [Act.put, List.setIfInBounds_toArray, List.set_cons_zero, List.set_cons_succ, i64_w, i32_w]
                       rfl
                      refine pure_ (i := 5) (N := some 63) (v := ?_) (a' := ?_) #[true, true, true, false, true, true, false, false, false, false, false] rfl rfl (any_of HT_.out (by kernel_rfl)) (fun _ _ _ h => h) (Or.inl ⟨by rfl, ?_⟩) ?_ ?_
                      rotate_left
                      ·intro w'
                       go_simp
                       with_reducible rfl
                      rotate_left
                      ·simp only [Act.put, List.setIfInBounds_toArray, List.set_cons_zero, List.set_cons_succ, i64_w, i32_w]
                       rfl
                      refine pure_ (i := 6) (N := some 64) (v := ?_) (a' := ?_) #[true, true, true, false, true, true, true, false, false, false, false] rfl rfl (any_of HT_.out (by kernel_rfl)) (fun _ _ _ h => h) (Or.inl ⟨by rfl, ?_⟩) ?_ ?_
                      rotate_left
                      ·intro w'
                       go_simp
                       with_reducible rfl
                      rotate_left
                      ·simp only [Act.put, List.setIfInBounds_toArray, List.set_cons_zero, List.set_cons_succ, i64_w, i32_w]
                       rfl
                      refine take_ (i := 3) (N := some 61) (v := ?_) (a' := ?_) #[true, true, true, true, true, true, true, false, false, false, false] rfl rfl (take_ofW HT_.out HW_.out (by kernel_rfl)) (fun _ _ _ h => h) (Or.inl ⟨by rfl, ?_⟩) hHeld ?_ ?_
                      rotate_left
                      ·rintro w' ⟨s0, s1⟩
                       go_simp
                       with_reducible rfl
                      rotate_left
                      ·simp only [Act.put, List.setIfInBounds_toArray, List.set_cons_zero, List.set_cons_succ, i64_w, i32_w]
                       rfl
                      refine take_ (i := 7) (N := some 65) (v := ?_) (a' := ?_) #[true, true, true, true, true, true, true, true, false, false, false] rfl rfl (take_ofW HT_.out HW_.out (by kernel_rfl)) (fun _ _ _ h => h) (Or.inl ⟨by rfl, ?_⟩) hHeld ?_ ?_
                      rotate_left
                      ·rintro w' ⟨s0, s1⟩
                       go_simp
                       with_reducible rfl
                      rotate_left
                      ·simp only [Act.put, List.setIfInBounds_toArray, List.set_cons_zero, List.set_cons_succ, i64_w, i32_w]
                       rfl
                      refine pure_ (i := 8) (N := some 66) (v := ?_) (a' := ?_) #[true, true, true, true, true, true, true, true, true, false, false] rfl rfl (any_of HT_.out (by kernel_rfl)) (fun _ _ _ h => h) (Or.inl ⟨by rfl, ?_⟩) ?_ ?_
                      rotate_left
                      ·intro w'
                       go_simp
                       with_reducible rfl
                      rotate_left
                      ·simp only [Act.put, List.setIfInBounds_toArray, List.set_cons_zero, List.set_cons_succ, i64_w, i32_w]
                       rfl
                      refine pure_ (i := 9) (N := some 67) (v := ?_) (a' := ?_) #[true, true, true, true, true, true, true, true, true, true, false] rfl rfl (any_of HT_.out (by kernel_rfl)) (fun _ _ _ h => h) (Or.inl ⟨by rfl, ?_⟩) ?_ ?_
                      rotate_left
                      ·intro w'
                       go_simp
                       with_reducible rfl
                      rotate_left
                      ·simp only [Act.put, List.setIfInBounds_toArray, List.set_cons_zero, List.set_cons_succ, i64_w, i32_w]
                       rfl
                      refine last_ (i := 10) (N := none) #[true, true, true, true, true, true, true, true, true, true, true] rfl rfl (one_of HT_.out (by kernel_rfl)) (by decide) (fun K hK => ?_)
                      refine skip_ (w1 := ?_) (by rfl) rfl ?_ ?_
                      rotate_left
                      ·go_simp
                       rfl
                      refine hK.out _ _ ?_
                      clear hK K
                      refine done_ (done_of HT_.out (by kernel_rfl)) ?_
                      have p278 : 0 ≤ (x9_1 : Int) := OD
                      have q278 : x9_1 < (x8_2.length : Int) := OD
                      obtain ⟨ad278, e278, hx278_0⟩ := Kd.at_int (Kd.R_reads' HO_8.out).2.2 x9_1 p278 q278
                      obtain rfl : (⟨go12, 0, none⟩ : Addr) = ad278 := (by injection e278)
                      (first | simp only [add_plain] at hx278_0 | simp only [add_at] at hx278_0 | simp only [Addr.add, Nat.zero_add] at hx278_0 | skip)
                      have hn278_0 : (⟨go12, 0, none⟩ : Addr).block ≠ go10 := (fun e_ => ((HO_8.out.1 _ rfl)) (congrArg some e_))
                      replace hx278_0 := (cell_far (p := ⟨go10, (x9_1 : Int).toNat, none⟩) (by first | (rw [add_block]; exact hn278_0) | (show (Addr.add _ _).block ≠ _; rw [add_block]; exact hn278_0) | exact hn278_0) (.int .i64 (wrap64 ((rd x7_2 x9_1) + (rd x7_2 x10_2))))).trans hx278_0
                      clear hn278_0
                      replace p278 := eq_true p278
                      replace q278 := eq_true q278
                      have p280 : 0 ≤ (x9_1 : Int) := OD
                      have q280 : x9_1 < (x8_2.length : Int) := OD
                      obtain ⟨ad280, e280, hx280_0⟩ := Kd.at_int (Kd.R_reads' HO_8.out).2.2 x9_1 p280 q280
                      obtain rfl : (⟨go12, 0, none⟩ : Addr) = ad280 := (by injection e280)
                      (first | simp only [add_plain] at hx280_0 | simp only [add_at] at hx280_0 | simp only [Addr.add, Nat.zero_add] at hx280_0 | skip)
                      have hn280_0 : (⟨go12, 0, none⟩ : Addr).block ≠ go10 := (fun e_ => ((HO_8.out.1 _ rfl)) (congrArg some e_))
                      replace hx280_0 := (cell_far (p := ⟨go10, (x9_1 : Int).toNat, none⟩) (by first | (rw [add_block]; exact hn280_0) | (show (Addr.add _ _).block ≠ _; rw [add_block]; exact hn280_0) | exact hn280_0) (.int .i64 (wrap64 ((rd x7_2 x9_1) + (rd x7_2 x10_2))))).trans hx280_0
                      clear hn280_0
                      replace p280 := eq_true p280
                      replace q280 := eq_true q280
                      try go_wp2
                      (try simp only [← hl7_2, ← hl8_2])
                      go_roundg k2
                      case measure => have := HK1.out; have := HK2.out; omega
                      case rel => exact ⟨(y277), (x8_2), (wrap64 (x10_2 + 1)), Za, H', ⟨by have := HK1.out; have := HK2.out; omega⟩, ⟨by (try simp only [hl7_1]); (try simp only [hl8_1]); (try simp only [hl7_2]); (try simp only [hl8_2]); (with_reducible repeat (first | apply Kd.R_alloc | apply Kd.R_drewN | apply Kd.R_drew)); exact HQ73.out⟩, ⟨by (try simp only [hl7_1]); (try simp only [hl8_1]); (try simp only [hl7_2]); (try simp only [hl8_2]); (with_reducible repeat (first | apply Kd.R_alloc | apply Kd.R_drewN | apply Kd.R_drew)); exact Kd.R_mono (Kd.R_far (p := ⟨go10, (x9_1 : Int).toNat, none⟩) (Kd.R_mono HO_8.out (fun k_ hk => (⟨hk, fun e_ => hk (by rw [e_]; rfl)⟩ : _ ∧ k_ ≠ go10))) (fun _ hk => hk.2) (.int .i64 (wrap64 ((rd x7_2 x9_1) + (rd x7_2 x10_2))))) (fun _ hk => hk.1)⟩, ⟨by repeat (first | (with_reducible first | exact HB.out | apply below_alloc | apply pw_below_drewN | apply below_drew1 | refine below_set ?_ GB10.out) | exact HB.out)⟩⟩
                   ·rw [if_neg c57] at H
                    exact absurd H (by simp)
                  ·rw [if_neg c55] at H
                   exact absurd H (by simp)
                 ·rw [if_neg c54] at H
                  exact absurd H (by simp)
                ·rw [if_neg c53] at H
                 exact absurd H (by simp)
             ·rw [if_neg c29] at H
              exact absurd H (by simp)
            ·rw [if_neg c28] at H
             exact absurd H (by simp)
           ·rw [if_neg c27] at H
            have c27b0 : decide (x10_2 ≤ (ji26)) = false := decide_eq_false c27
            clear c27
            by_cases c74 : x9_1 > 0
            ·rw [if_pos c74] at H
             have c74b0 : decide (0 < x9_1) = true := decide_eq_true c74
             clear c74
             obtain ⟨ji75, hji75⟩ : ∃ j_ : Int, (wrap64 (x9_1 - 1)) = j_ := ⟨_, rfl⟩
             replace H : (if 0 ≤ (ji75) then (if (ji75) < (l0.length : Int) then (if (rd l0 (ji75)) = 0 then (if 0 ≤ x9_1 then (if x9_1 < (x7_2.length : Int) then (if x9_1 < (x8_2.length : Int) then (impl_ways.l0 k2 l0 a1 ji7 (x7_2.set (x9_1 : Int).toNat 0) (x8_2.set (x9_1 : Int).toNat (-1)) ji75) else (none)) else (none)) else (none)) else (impl_ways.l0 k2 l0 a1 ji7 x7_2 x8_2 ji75)) else (none)) else (none)) = some (r1, r2) := by first | (rw [hji75] at H; exact H) | (simp only [hji75] at H ⊢; exact H)
             have hji75w : (IntKind.i64.wrap (x9_1 - 1)) = ji75 := (i64_w _).trans hji75
             by_cases c76 : 0 ≤ (ji75)
             ·rw [if_pos c76] at H
              have c76b0 : decide (0 ≤ (ji75)) = true := decide_eq_true c76
              clear c76
              by_cases c77 : (ji75) < (l0.length : Int)
              ·rw [if_pos c77] at H
               have c77b0 : decide ((ji75) < (l0.length : Int)) = true := decide_eq_true c77
               clear c77
               by_cases c78 : (rd l0 (ji75)) = 0
               ·rw [if_pos c78] at H
                have c78b0 : ((rd l0 (ji75)) == 0) = true := beq_iff_eq.mpr c78
                have c78b1 : ((rd l0 (ji75)) != 0) = false := bne_eq_false_iff_eq.mpr c78
                clear c78
                by_cases c79 : 0 ≤ x9_1
                ·rw [if_pos c79] at H
                 have c79b0 : decide (0 ≤ x9_1) = true := decide_eq_true c79
                 clear c79
                 by_cases c80 : x9_1 < (x7_2.length : Int)
                 ·rw [if_pos c80] at H
                  have c80b0 : decide (x9_1 < (x7_2.length : Int)) = true := decide_eq_true c80
                  clear c80
                  obtain ⟨y264, hy264⟩ : ∃ y_ : List Int, y_ = (x7_2.set (x9_1 : Int).toNat 0) := ⟨_, rfl⟩
                  replace H : (if x9_1 < (x8_2.length : Int) then (impl_ways.l0 k2 l0 a1 ji7 y264 (x8_2.set (x9_1 : Int).toNat (-1)) ji75) else (none)) = some (r1, r2) := by first | (rw [hy264]; with_reducible exact H) | (have H2_ := (Option.bind_some _ _).symm.trans H; rw [hy264]; with_reducible exact H2_) | (have H2_ := (Option.bind_some _ _).symm.trans H; with_reducible exact H2_) | with_reducible exact H | (rw [hy264]; exact H) | exact H
                  have Ny264 := Aside0.mk hy264
                  clear hy264
                  by_cases c82 : x9_1 < (x8_2.length : Int)
                  ·rw [if_pos c82] at H
                   have c82b0 : decide (x9_1 < (x8_2.length : Int)) = true := decide_eq_true c82
                   clear c82
                   obtain ⟨y265, hy265⟩ : ∃ y_ : List Int, y_ = (x8_2.set (x9_1 : Int).toNat (-1)) := ⟨_, rfl⟩
                   replace H : (impl_ways.l0 k2 l0 a1 ji7 y264 y265 ji75) = some (r1, r2) := by first | (rw [hy265]; with_reducible exact H) | (have H2_ := (Option.bind_some _ _).symm.trans H; rw [hy265]; with_reducible exact H2_) | (have H2_ := (Option.bind_some _ _).symm.trans H; with_reducible exact H2_) | with_reducible exact H | (rw [hy265]; exact H) | exact H
                   have Ny265 := Aside0.mk hy265
                   clear hy265
                   have H' := Aside0.mk H
                   clear H
                   have p263 : 0 ≤ ((ji75) : Int) := OD
                   have q263 : (ji75) < (l0.length : Int) := OD
                   obtain ⟨ad263, e263, hx263_0⟩ := Kd.at_int HR0.out (ji75) p263 q263
                   cases e263
                   replace hx263_0 := (HB.out.cell (World.block_lt_of_cell? w _ hx263_0)).trans hx263_0
                   replace p263 := eq_true p263
                   replace q263 := eq_true q263
                   have p81 : 0 ≤ (x9_1 : Int) := OD
                   have q81 : (x9_1 : Int) < ((x7_2.length : Int) : Int) := OD
                   obtain ⟨hx81_0, hf81_0⟩ := Kd.R_celln 0 HO_7.out (x9_1 : Int) p81 q81
                   replace p81 := eq_true p81
                   replace q81 := eq_true q81
                   have HP84 := Kd.R_putg HO_7.out (x9_1 : Int) 0
                   go_wp2_with (first | ((with_reducible refine gate_store (t := 3) (p := 99) rfl ?_); refine store_event (t := 3) (p := 99) (v := ?vo_w85) (w1 := (wr.setCell ⟨go10, (x9_1 : Int).toNat, none⟩ (.int .i64 0))) ?hg ?ho ?hn ?hr ?_; (case ho => rfl); (case hg => rfl); (case hn => rfl); (case hr => first | (go_simp; done) | (go_simp; rfl)); intro w85 hw; have hg : wr.grownBy w85 (some go10) := (by rw [hw]; exact HP84.2); have hp_ : Kd.R (Kd.int .i64) 3 w85 w.heap.size (fun k_ => some k_ ≠ (.slice (some ⟨go12, 0, none⟩) x8_2.length co12 : Value).ownBlock) (.slice (some ⟨go10, 0, none⟩) x7_2.length co10) y264 := (by rw [hw, Ny264.out]; exact HP84.1); clear HP84; have n0_ := Aside0.mk (hp_); have n1_ := Aside0.mk (Kd.R_after (v := (.slice (some ⟨go10, 0, none⟩) x7_2.length co10)) (v1 := (.slice (some ⟨go10, 0, none⟩) x7_2.length co10)) (ok := (fun _ => True)) (RS (Kd.R_mono HO_8.out (fun _ hk => ⟨trivial, hk⟩))) hg (.inl rfl)); have n2_ := Aside0.mk ((by rw [hw]; exact below_set (HB.out) GB10.out : Below w.heap.size w w85)); clear HO_7; clear HO_8; clear HB; have HO_7 := n0_; have HO_8 := n1_; have HB := n2_; clear n0_ n1_ n2_; clear hg hw hp_; have p83 : 0 ≤ (x9_1 : Int) := OD; have q83 : (x9_1 : Int) < ((x8_2.length : Int) : Int) := OD; obtain ⟨hx83_0, hf83_0⟩ := Kd.R_celln 0 HO_8.out (x9_1 : Int) p83 q83; replace p83 := eq_true p83; replace q83 := eq_true q83; have n_ := Aside0.mk (Kd.R_mono (ok' := (fun k_ => some k_ ≠ (.slice (some ⟨go10, 0, none⟩) x7_2.length co10 : Value).ownBlock)) HO_8.out (fun k_ hk => hk.2)); clear HO_8; have HO_8 := n_; clear n_; obtain ⟨hy86_, hz86_⟩ := Kd.R_celln 0 HO_8.out (x9_1 : Int) OD OD; have HP86 := Kd.R_putg HO_8.out (x9_1 : Int) (-1)) | ((with_reducible refine gate_store (t := 3) (p := 100) rfl ?_); refine store_event (t := 3) (p := 100) (v := ?vo_w87) (w1 := (w85.setCell ⟨go12, (x9_1 : Int).toNat, none⟩ (.int .i64 (-1)))) ?hg ?ho ?hn ?hr ?_; (case ho => rfl); (case hg => rfl); (case hn => rfl); (case hr => first | (go_simp; done) | (go_simp; rfl)); intro w87 hw; have hg : w85.grownBy w87 (some go12) := (by rw [hw]; exact HP86.2); have hp_ : Kd.R (Kd.int .i64) 3 w87 w.heap.size (fun k_ => some k_ ≠ (.slice (some ⟨go10, 0, none⟩) x7_2.length co10 : Value).ownBlock) (.slice (some ⟨go12, 0, none⟩) x8_2.length co12) y265 := (by rw [hw, Ny265.out]; exact HP86.1); clear HP86; have n0_ := Aside0.mk (Kd.R_after (v := (.slice (some ⟨go12, 0, none⟩) x8_2.length co12)) (v1 := (.slice (some ⟨go12, 0, none⟩) x8_2.length co12)) (ok := (fun _ => True)) (RS (Kd.R_mono HO_7.out (fun _ hk => ⟨trivial, hk⟩))) hg (.inl rfl)); have n1_ := Aside0.mk (hp_); have n2_ := Aside0.mk ((by rw [hw]; exact below_set (HB.out) GB12.out : Below w.heap.size w w87)); clear HO_7; clear HO_8; clear HB; have HO_7 := n0_; have HO_8 := n1_; have HB := n2_; clear n0_ n1_ n2_; clear hg hw hp_))
                   (try simp only [← hl7_1, ← hl8_1, ← hl7_2, ← hl8_2])
                   go_roundg k2
                   case measure => have := HK1.out; have := HK2.out; omega
                   case rel => exact ⟨(y264), (y265), (ji75), (by first | rfl | (simp; done) | (simp only [← hji75] <;> (first | rfl | simp)) | (simp [*]; done)), H', ⟨by have := HK1.out; have := HK2.out; omega⟩, ⟨by (try simp only [hl7_1]); (try simp only [hl8_1]); (try simp only [hl7_2]); (try simp only [hl8_2]); (with_reducible repeat (first | apply Kd.R_alloc | apply Kd.R_drewN | apply Kd.R_drew)); exact Kd.R_mono HO_7.out (fun _ hk => hk.2)⟩, ⟨by (try simp only [hl7_1]); (try simp only [hl8_1]); (try simp only [hl7_2]); (try simp only [hl8_2]); (with_reducible repeat (first | apply Kd.R_alloc | apply Kd.R_drewN | apply Kd.R_drew)); exact HO_8.out⟩, ⟨BS HB.out⟩⟩
                  ·rw [if_neg c82] at H
                   exact absurd H (by simp)
                 ·rw [if_neg c80] at H
                  exact absurd H (by simp)
                ·rw [if_neg c79] at H
                 exact absurd H (by simp)
               ·rw [if_neg c78] at H
                have c78b0 : ((rd l0 (ji75)) == 0) = false := beq_eq_false_iff_ne.mpr c78
                have c78b1 : ((rd l0 (ji75)) != 0) = true := bne_iff_ne.mpr c78
                have H' := Aside0.mk H
                clear H
                have p263 : 0 ≤ ((ji75) : Int) := OD
                have q263 : (ji75) < (l0.length : Int) := OD
                obtain ⟨ad263, e263, hx263_0⟩ := Kd.at_int HR0.out (ji75) p263 q263
                cases e263
                replace hx263_0 := (HB.out.cell (World.block_lt_of_cell? w _ hx263_0)).trans hx263_0
                replace p263 := eq_true p263
                replace q263 := eq_true q263
                go_wp2
                (try simp only [← hl7_1, ← hl8_1, ← hl7_2, ← hl8_2])
                go_roundg k2
                case measure => have := HK1.out; have := HK2.out; omega
                case rel => exact ⟨(x7_2), (x8_2), (ji75), (by first | rfl | (simp; done) | (simp only [← hji75] <;> (first | rfl | simp)) | (simp [*]; done)), H', ⟨by have := HK1.out; have := HK2.out; omega⟩, ⟨by (try simp only [hl7_1]); (try simp only [hl8_1]); (try simp only [hl7_2]); (try simp only [hl8_2]); (with_reducible repeat (first | apply Kd.R_alloc | apply Kd.R_drewN | apply Kd.R_drew)); exact HO_7.out⟩, ⟨by (try simp only [hl7_1]); (try simp only [hl8_1]); (try simp only [hl7_2]); (try simp only [hl8_2]); (with_reducible repeat (first | apply Kd.R_alloc | apply Kd.R_drewN | apply Kd.R_drew)); exact HO_8.out⟩, ⟨BS HB.out⟩⟩
              ·rw [if_neg c77] at H
               exact absurd H (by simp)
             ·rw [if_neg c76] at H
              exact absurd H (by simp)
            ·rw [if_neg c74] at H
             have c74b0 : decide (0 < x9_1) = false := decide_eq_false c74
             clear c74
             have H' := Aside0.mk H
             clear H
             go_wp2
             (try simp only [← hl7_1, ← hl8_1, ← hl7_2, ← hl8_2])
             go_roundg k2
             case measure => have := HK1.out; have := HK2.out; omega
             case rel => exact ⟨(x7_2), (x8_2), (wrap64 (x9_1 - 1)), Za, H', ⟨by have := HK1.out; have := HK2.out; omega⟩, ⟨by (try simp only [hl7_1]); (try simp only [hl8_1]); (try simp only [hl7_2]); (try simp only [hl8_2]); (with_reducible repeat (first | apply Kd.R_alloc | apply Kd.R_drewN | apply Kd.R_drew)); exact HO_7.out⟩, ⟨by (try simp only [hl7_1]); (try simp only [hl8_1]); (try simp only [hl7_2]); (try simp only [hl8_2]); (with_reducible repeat (first | apply Kd.R_alloc | apply Kd.R_drewN | apply Kd.R_drew)); exact HO_8.out⟩, ⟨BS HB.out⟩⟩
        ·rw [if_neg c25] at H
         have c25b0 : decide (0 ≤ x9_1) = false := decide_eq_false c25
         clear c25
         simp only [Option.some.injEq, Prod.mk.injEq] at H
         obtain ⟨rfl, rfl⟩ := H
         go_wp2
         go_ret2
         exact ⟨_, _, by first | rfl | (simp [errW_none, errW_some] <;> rfl) | (simp only [← hji3, ← hji7]; first | rfl | (simp [errW_none, errW_some] <;> rfl)) | (simp [*, errW_none, errW_some] <;> rfl), RS HO_7.out, RS HO_8.out, BS HB.out⟩
     ·rw [if_neg c11] at H
      exact absurd H (by simp)
    ·rw [if_neg c9] at H
     exact absurd H (by simp)
   ·rw [if_neg c8] at H
    exact absurd H (by simp)
  ·rw [if_neg c5] at H
   exact absurd H (by simp)
 ·rw [if_neg c4] at H
  exact absurd H (by simp)

end Go.Proofs.Ytbeokaghdagabaa.PFnStepsMendedOfAll
