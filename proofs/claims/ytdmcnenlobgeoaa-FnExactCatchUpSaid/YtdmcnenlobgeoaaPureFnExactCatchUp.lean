/- The pure statement of FnExactCatchUp: the printed function returns true for all arguments within their kinds; no other condition. -/
import Derived.Test.YtdmcnenlobgeoaaPFnExactCatchUpx
namespace Go.Proofs.Ytdmcnenlobgeoaa.Pure
open Go.RowKit Go.Proofs.Ytdmcnenlobgeoaa.PFnExactCatchUp Go.Proofs.YtdmcnenlobgeoaaW.PrintWords Go.Proofs.YtdmcnenlobgeoaaW.PrintLast Go.Proofs.YtdmcnenlobgeoaaW.PrintMore
set_option linter.unusedVariables false
set_option linter.unusedSimpArgs false
theorem in_val (a b c : Int) : spec_l1In.f a b c = some (decide (b ≤ a ∧ a ≤ c)) := by
  unfold spec_l1In.f
  by_cases h : b ≤ a <;> simp [h]
theorem within_val (a b c : Int) : impl_within.f a b c = some (decide (b ≤ a ∧ a ≤ c)) := by
  unfold impl_within.f
  by_cases h : b ≤ a <;> simp [h]

theorem moGood_val (v s : Int) : spec_moGood.f v s = some (decide ((1 ≤ v ∧ v ≤ 500) ∧ 0 ≤ s ∧ s ≤ 20)) := by
  unfold spec_moGood.f
  simp only [in_val, Option.bind_some]
  by_cases h : 1 ≤ v ∧ v ≤ 500 <;> simp [h]
theorem isMoving_val (v s : Int) : impl_IsMoving.f v s = some (decide ((1 ≤ v ∧ v ≤ 500) ∧ 0 ≤ s ∧ s ≤ 20)) := by
  unfold impl_IsMoving.f
  simp only [within_val, Option.bind_some]
  by_cases h : 1 ≤ v ∧ v ≤ 500 <;> simp [h]

theorem moAsked_val (v s p : Int) : spec_moAsked.f v s p = some (decide (((1 ≤ v ∧ v ≤ 500) ∧ 0 ≤ s ∧ s ≤ 20) ∧ 0 ≤ p ∧ p ≤ 20)) := by
  unfold spec_moAsked.f
  simp only [moGood_val, in_val, Option.bind_some]
  by_cases h : (1 ≤ v ∧ v ≤ 500) ∧ 0 ≤ s ∧ s ≤ 20
  · simp only [h, decide_true, if_true, true_and]
  · simp only [h, decide_false, false_and]; rfl
theorem isPace_val (p : Int) : impl_isPace.f p = some (decide (0 ≤ p ∧ p ≤ 20)) := by
  unfold impl_isPace.f
  simp only [within_val, Option.bind_some]

theorem gcd_val : ∀ (k n m : Nat), n ≤ k → impl_gcd.l0 (k + 1) (m : Int) (n : Int) = some ((Nat.gcd m n : Nat) : Int) := by
  intro k
  induction k with
  | zero =>
    intro n m h
    obtain rfl : n = 0 := by omega
    simp [impl_gcd.l0]
  | succ k ih =>
    intro n m h
    unfold impl_gcd.l0
    by_cases h0 : n = 0
    · subst h0
      simp
    · have hn : 0 < n := by omega
      rw [if_neg (by omega), ← Int.ofNat_tmod]
      rw [ih (m % n) n (by have := Nat.mod_lt m hn; omega)]
      congr 2
      rw [Nat.gcd_comm n, ← Nat.gcd_rec, Nat.gcd_comm]
theorem part_neg (k : Nat) (n d : Int) (h : d ≤ 0) : impl_part.f k n d = some (0, 0, false) := by
  unfold impl_part.f
  rw [if_pos h]
theorem part_val (n d k : Nat) (hd : 0 < d) (hk : d ≤ k) :
    impl_part.f (k + 1) (n : Int) (d : Int) = some (wrap64 (((n : Int)).tdiv (Nat.gcd n d : Nat)), wrap64 ((d : Int).tdiv (Nat.gcd n d : Nat)), true) := by
  have hg : 0 < Nat.gcd n d := Nat.gcd_pos_of_pos_right n hd
  unfold impl_part.f impl_gcd.f
  rw [if_neg (by omega), gcd_val k d n hk]
  simp only [Option.bind_some]
  rw [if_neg (by omega)]

theorem low_val (x y : Int) : ∀ (k n m : Nat), n ≤ k → 0 < m + n →
    spec_moLow.l0 (k + 1) x y (m : Int) (n : Int) = some (wrap64 (x.tdiv (Nat.gcd m n : Nat)), wrap64 (y.tdiv (Nat.gcd m n : Nat))) := by
  intro k
  induction k with
  | zero =>
    intro n m h hp
    obtain rfl : n = 0 := by omega
    unfold spec_moLow.l0
    rw [if_neg (by omega), if_neg (by omega)]
    simp
  | succ k ih =>
    intro n m h hp
    unfold spec_moLow.l0
    by_cases h0 : n = 0
    · subst h0
      rw [if_neg (by omega), if_neg (by omega)]
      simp
    · have hn : 0 < n := by omega
      rw [if_pos (by omega), if_neg (by omega), ← Int.ofNat_tmod]
      rw [ih (m % n) n (by have := Nat.mod_lt m hn; omega) (by omega)]
      have e : Nat.gcd n (m % n) = Nat.gcd m n := by rw [Nat.gcd_comm n, ← Nat.gcd_rec, Nat.gcd_comm]
      rw [e]
/-- Both programs bring a fraction to lowest terms alike. -/
theorem low_part (n d : Int) (hn : 0 ≤ n) (hd : 0 < d) : ∃ k x y, spec_moLow.f k n d = some (x, y) ∧ impl_part.f k n d = some (x, y, true) := by
  obtain ⟨n, rfl⟩ := Int.eq_ofNat_of_zero_le hn
  obtain ⟨d, rfl⟩ := Int.eq_ofNat_of_zero_le (Int.le_of_lt hd)
  have hd' : 0 < d := by omega
  refine ⟨d + 1, _, _, low_val _ _ d d n (Nat.le_refl _) (by omega), part_val n d d hd' (Nat.le_refl _)⟩
theorem w64 {x : Int} (h0 : -9223372036854775808 ≤ x) (h1 : x ≤ 9223372036854775807) : wrap64 x = x := by
  unfold wrap64
  omega
theorem mul_bd {a b A B : Int} (ha : 0 ≤ a) (hA : a ≤ A) (hb : 0 ≤ b) (hB : b ≤ B) : 0 ≤ a * b ∧ a * b ≤ A * B :=
  ⟨Int.mul_nonneg ha hb, Int.mul_le_mul hA hB hb (Int.le_trans ha hA)⟩
theorem wz : wrap64 0 = 0 := w64 (by omega) (by omega)

/- What is proved at the end: ∀ (a0_0 : Int) (a0_1 : Int) (a1 : Int) (a2 : Int) (a3 : Int), (Lit.int .i64 a0_0).wf = true → (Lit.int .i64 a0_1).wf = true → (Lit.int .i64 a1).wf = true → (Lit.int .i64 a2).wf = true → (Lit.int .i64 a3).wf = true → ∃ k, laws_FnExactCatchUp.f k a0_0 a0_1 a1 a2 a3 = some true -/
theorem FnExactCatchUp : ∀ (a0_0 a0_1 a1 a2 a3 : Int), (Lit.int .i64 a0_0).wf = true → (Lit.int .i64 a0_1).wf = true → (Lit.int .i64 a1).wf = true → (Lit.int .i64 a2).wf = true → (Lit.int .i64 a3).wf = true → ∃ k, laws_FnExactCatchUp.f k a0_0 a0_1 a1 a2 a3 = some true := by
  intro v s u f t _ _ _ _ _
  by_cases h1 : (1 ≤ v ∧ v ≤ 500) ∧ 0 ≤ s ∧ s ≤ 20
  · have hM : impl_IsMoving.f v s = some true := by rw [isMoving_val, decide_eq_true h1]
    by_cases h2 : 0 ≤ u ∧ u ≤ 20
    · have hA : spec_moAsked.f v s u = some true := by rw [moAsked_val, decide_eq_true ⟨h1, h2⟩]
      have hP : impl_isPace.f u = some true := by rw [isPace_val, decide_eq_true h2]
      by_cases h3 : 0 ≤ f ∧ f ≤ 20
      · have hB : spec_moAsked.f v s f = some true := by rw [moAsked_val, decide_eq_true ⟨h1, h3⟩]
        have hQ : impl_isPace.f f = some true := by rw [isPace_val, decide_eq_true h3]
        by_cases h4 : f ≤ u
        · exact ⟨2, by simp [laws_FnExactCatchUp.f, laws_toMoving.f, spec_CatchUp.f, impl_CatchUp.f, spec_CatchUp.j0, impl_CatchUp.j0, hM, hA, hP, hB, hQ, h4]⟩
        · by_cases h5 : 0 ≤ t ∧ t ≤ 1000
          · have hI : spec_l1In.f t 0 1000 = some true := by rw [in_val, decide_eq_true h5]
            have hW : impl_within.f t 0 1000 = some true := by rw [within_val, decide_eq_true h5]
            have b1 := mul_bd (a := s + f) (A := 40) (b := t) (B := 1000) (by omega) (by omega) (by omega) (by omega)
            have b2 := mul_bd (a := s + u) (A := 40) (b := (s + f) * t) (B := 40000) (by omega) (by omega) (by omega) (by omega)
            have b3 := mul_bd (a := v) (A := 500) (b := f - u) (B := 20) (by omega) (by omega) (by omega) (by omega)
            have e1 : wrap64 (s + f) = s + f := w64 (by omega) (by omega)
            have e2 : wrap64 ((s + f) * t) = (s + f) * t := w64 (by omega) (by omega)
            have e3 : wrap64 (s + u) = s + u := w64 (by omega) (by omega)
            have e4 : wrap64 ((s + u) * ((s + f) * t)) = (s + u) * ((s + f) * t) := w64 (by omega) (by omega)
            have e5 : wrap64 (f - u) = f - u := w64 (by omega) (by omega)
            have e6 : wrap64 (v * (f - u)) = v * (f - u) := w64 (by omega) (by omega)
            obtain ⟨k, x, y, hs, hi⟩ := low_part ((s + f) * t) (f - u) b1.1 (by omega)
            refine ⟨k + 1, ?_⟩
            have hS : spec_CatchUp.j0 (k + 1) u f t false v s = if (s + u) * ((s + f) * t) > v * (f - u) then some (0, 0, false) else some (x, y, true) := by
              simp only [spec_CatchUp.j0]
              rw [if_neg (by simp), e3, e1, e2, e4, e5, e6, hs]
              rfl
            have hJ : impl_CatchUp.j0 (k + 1) u f t false v s = if (s + u) * ((s + f) * t) > v * (f - u) then some (0, 0, false) else some (x, y, true) := by
              simp only [impl_CatchUp.j0]
              rw [if_neg (by simp), e3, e1, e2, e4, e5, e6, hi]
              rfl
            have hS' : spec_CatchUp.f (k + 1) v s u f t = if (s + u) * ((s + f) * t) > v * (f - u) then some (0, 0, false) else some (x, y, true) := by
              unfold spec_CatchUp.f
              rw [hA, hB, hI]
              simp only [Option.bind_some, if_true]
              rw [if_neg h4]
              exact hS
            have hJ' : impl_CatchUp.f (k + 1) v s u f t = if (s + u) * ((s + f) * t) > v * (f - u) then some (0, 0, false) else some (x, y, true) := by
              unfold impl_CatchUp.f
              rw [hM, hP, hQ, hW]
              simp only [Option.bind_some, if_true]
              rw [if_neg h4]
              exact hJ
            by_cases h6 : (s + u) * ((s + f) * t) > v * (f - u)
            · rw [if_pos h6] at hS' hJ'
              simp [laws_FnExactCatchUp.f, laws_toMoving.f, hS', hJ']
            · rw [if_neg h6] at hS' hJ'
              simp [laws_FnExactCatchUp.f, laws_toMoving.f, hS', hJ']
          · have hI : spec_l1In.f t 0 1000 = some false := by rw [in_val, decide_eq_false h5]
            have hW : impl_within.f t 0 1000 = some false := by rw [within_val, decide_eq_false h5]
            exact ⟨2, by simp [laws_FnExactCatchUp.f, laws_toMoving.f, spec_CatchUp.f, impl_CatchUp.f, spec_CatchUp.j0, impl_CatchUp.j0, hM, hA, hP, hB, hQ, hI, hW, h4]⟩
      · have hB : spec_moAsked.f v s f = some false := by rw [moAsked_val, decide_eq_false (fun h => h3 h.2)]
        have hQ : impl_isPace.f f = some false := by rw [isPace_val, decide_eq_false h3]
        exact ⟨2, by simp [laws_FnExactCatchUp.f, laws_toMoving.f, spec_CatchUp.f, impl_CatchUp.f, spec_CatchUp.j0, impl_CatchUp.j0, hM, hA, hP, hB, hQ]⟩
    · have hA : spec_moAsked.f v s u = some false := by rw [moAsked_val, decide_eq_false (fun h => h2 h.2)]
      have hP : impl_isPace.f u = some false := by rw [isPace_val, decide_eq_false h2]
      exact ⟨2, by simp [laws_FnExactCatchUp.f, laws_toMoving.f, spec_CatchUp.f, impl_CatchUp.f, spec_CatchUp.j0, impl_CatchUp.j0, hM, hA, hP]⟩
  · have hM : impl_IsMoving.f v s = some false := by rw [isMoving_val, decide_eq_false h1]
    have hA : spec_moAsked.f v s u = some false := by rw [moAsked_val, decide_eq_false (fun h => h1 h.1)]
    exact ⟨2, by simp [laws_FnExactCatchUp.f, laws_toMoving.f, spec_CatchUp.f, impl_CatchUp.f, spec_CatchUp.j0, impl_CatchUp.j0, hM, hA]⟩

end Go.Proofs.Ytdmcnenlobgeoaa.Pure
