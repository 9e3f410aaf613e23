/- The pure statement of FnExactSpeedFromTwo: the printed function returns true for all arguments within their kinds; no other condition. -/
import Derived.Test.YtdmcnenlobgeoaaPFnExactSpeedFromTwox
namespace Go.Proofs.Ytdmcnenlobgeoaa.Pure
open Go.RowKit Go.Proofs.Ytdmcnenlobgeoaa.PFnExactSpeedFromTwo Go.Proofs.YtdmcnenlobgeoaaW.PrintWords Go.Proofs.YtdmcnenlobgeoaaW.PrintLast Go.Proofs.YtdmcnenlobgeoaaW.PrintMore
set_option linter.unusedVariables false
set_option linter.unusedSimpArgs false
theorem in_val (a b c : Int) : spec_l1In.f a b c = some (decide (b ≤ a ∧ a ≤ c)) := by
  unfold spec_l1In.f
  by_cases h : b ≤ a <;> simp [h]
theorem within_val (a b c : Int) : impl_within.f a b c = some (decide (b ≤ a ∧ a ≤ c)) := by
  unfold impl_within.f
  by_cases h : b ≤ a <;> simp [h]

theorem gcd_val : ∀ (k n m : Nat), n ≤ k → impl_gcd.l0 (k + 1) (m : Int) (n : Int) = some ((Nat.gcd m n : Nat) : Int) := by
  intro k
  induction k with
  | zero =>
    intro n m h
    obtain rfl : n = 0 := by omega
    simp [impl_gcd.l0]
  | succ k ih =>
    intro n m h
    unfold impl_gcd.l0
    by_cases h0 : n = 0
    · subst h0
      simp
    · have hn : 0 < n := by omega
      rw [if_neg (by omega), ← Int.ofNat_tmod]
      rw [ih (m % n) n (by have := Nat.mod_lt m hn; omega)]
      congr 2
      rw [Nat.gcd_comm n, ← Nat.gcd_rec, Nat.gcd_comm]
theorem part_neg (k : Nat) (n d : Int) (h : d ≤ 0) : impl_part.f k n d = some (0, 0, false) := by
  unfold impl_part.f
  rw [if_pos h]
theorem part_val (n d k : Nat) (hd : 0 < d) (hk : d ≤ k) :
    impl_part.f (k + 1) (n : Int) (d : Int) = some (wrap64 (((n : Int)).tdiv (Nat.gcd n d : Nat)), wrap64 ((d : Int).tdiv (Nat.gcd n d : Nat)), true) := by
  have hg : 0 < Nat.gcd n d := Nat.gcd_pos_of_pos_right n hd
  unfold impl_part.f impl_gcd.f
  rw [if_neg (by omega), gcd_val k d n hk]
  simp only [Option.bind_some]
  rw [if_neg (by omega)]

theorem low_val (x y : Int) : ∀ (k n m : Nat), n ≤ k → 0 < m + n →
    spec_moLow.l0 (k + 1) x y (m : Int) (n : Int) = some (wrap64 (x.tdiv (Nat.gcd m n : Nat)), wrap64 (y.tdiv (Nat.gcd m n : Nat))) := by
  intro k
  induction k with
  | zero =>
    intro n m h hp
    obtain rfl : n = 0 := by omega
    unfold spec_moLow.l0
    rw [if_neg (by omega), if_neg (by omega)]
    simp
  | succ k ih =>
    intro n m h hp
    unfold spec_moLow.l0
    by_cases h0 : n = 0
    · subst h0
      rw [if_neg (by omega), if_neg (by omega)]
      simp
    · have hn : 0 < n := by omega
      rw [if_pos (by omega), if_neg (by omega), ← Int.ofNat_tmod]
      rw [ih (m % n) n (by have := Nat.mod_lt m hn; omega) (by omega)]
      have e : Nat.gcd n (m % n) = Nat.gcd m n := by rw [Nat.gcd_comm n, ← Nat.gcd_rec, Nat.gcd_comm]
      rw [e]
/-- Both programs bring a fraction to lowest terms alike. -/
theorem low_part (n d : Int) (hn : 0 ≤ n) (hd : 0 < d) : ∃ k x y, spec_moLow.f k n d = some (x, y) ∧ impl_part.f k n d = some (x, y, true) := by
  obtain ⟨n, rfl⟩ := Int.eq_ofNat_of_zero_le hn
  obtain ⟨d, rfl⟩ := Int.eq_ofNat_of_zero_le (Int.le_of_lt hd)
  have hd' : 0 < d := by omega
  refine ⟨d + 1, _, _, low_val _ _ d d n (Nat.le_refl _) (by omega), part_val n d d hd' (Nat.le_refl _)⟩
theorem w64 {x : Int} (h0 : -9223372036854775808 ≤ x) (h1 : x ≤ 9223372036854775807) : wrap64 x = x := by
  unfold wrap64
  omega
theorem mul_bd {a b A B : Int} (ha : 0 ≤ a) (hA : a ≤ A) (hb : 0 ≤ b) (hB : b ≤ B) : 0 ≤ a * b ∧ a * b ≤ A * B :=
  ⟨Int.mul_nonneg ha hb, Int.mul_le_mul hA hB hb (Int.le_trans ha hA)⟩
theorem wz : wrap64 0 = 0 := w64 (by omega) (by omega)

theorem isPace_val' (p : Int) : impl_isPace.f p = some (decide (0 ≤ p ∧ p ≤ 20)) := by
  unfold impl_isPace.f
  simp only [within_val, Option.bind_some]
theorem isCount_val (n : Int) : impl_isCount.f n = some (decide (1 ≤ n ∧ n ≤ 10000)) := by
  unfold impl_isCount.f
  simp only [within_val, Option.bind_some]
def Two (p s o m : Int) : Prop := (1 ≤ p ∧ p ≤ 20) ∧ (p < o ∧ o ≤ 20) ∧ (1 ≤ s ∧ s ≤ 10000) ∧ s < m ∧ m ≤ 10000
instance (p s o m : Int) : Decidable (Two p s o m) := by unfold Two; exact inferInstance
theorem areTwo_val (p s o m : Int) : impl_areTwo.f p s o m = some (decide (Two p s o m)) := by
  unfold impl_areTwo.f
  simp only [within_val, isPace_val', isCount_val, Option.bind_some, decide_eq_true_eq]
  by_cases hC : Two p s o m
  · rw [decide_eq_true hC]
    unfold Two at hC
    rw [if_pos (by omega), if_pos (by omega), if_pos (by omega), if_pos (by omega), if_pos (by omega), decide_eq_true (by omega)]
  · rw [decide_eq_false hC]
    unfold Two at hC
    repeat' split
    all_goals first
      | rfl
      | (rw [decide_eq_false (by omega)])
theorem bounds_two {p s o m : Int} (h : Two p s o m) : (0 ≤ s * o ∧ s * o ≤ 200000) ∧ (0 ≤ m * p ∧ m * p ≤ 200000) ∧ (0 ≤ (m - s) * p ∧ (m - s) * p ≤ 200000) ∧ (0 ≤ (m - s) * p * o ∧ (m - s) * p * o ≤ 4000000) ∧ (0 ≤ s * m ∧ s * m ≤ 100000000) ∧ (0 ≤ s * m * (o - p) ∧ s * m * (o - p) ≤ 2000000000) := by
  unfold Two at h
  have h1 := mul_bd (a := s) (A := 10000) (b := o) (B := 20) (by omega) (by omega) (by omega) (by omega)
  have h2 := mul_bd (a := m) (A := 10000) (b := p) (B := 20) (by omega) (by omega) (by omega) (by omega)
  have h3 := mul_bd (a := m - s) (A := 10000) (b := p) (B := 20) (by omega) (by omega) (by omega) (by omega)
  have h4 := mul_bd (a := (m - s) * p) (A := 200000) (b := o) (B := 20) (by omega) (by omega) (by omega) (by omega)
  have h5 := mul_bd (a := s) (A := 10000) (b := m) (B := 10000) (by omega) (by omega) (by omega) (by omega)
  have h6 := mul_bd (a := s * m) (A := 100000000) (b := o - p) (B := 20) (by omega) (by omega) (by omega) (by omega)
  omega
theorem moTwo_val (k : Nat) (p s o m : Int) : spec_moTwo.f (k + 1) p s o m = some (if Two p s o m then (if s * o - m * p ≤ 0 then (0, 0, false) else ((m - s) * p * o, s * o - m * p, true)) else (0, 0, false)) := by
  unfold spec_moTwo.f
  simp only [in_val, Option.bind_some, decide_eq_true_eq, spec_moTwo.j0]
  by_cases hC : Two p s o m
  · have hb := bounds_two hC
    rw [if_pos hC]
    unfold Two at hC
    have e1 : wrap64 (p + 1) = p + 1 := w64 (by omega) (by omega)
    have e2 : wrap64 (s + 1) = s + 1 := w64 (by omega) (by omega)
    have e3 : wrap64 (s * o) = s * o := w64 (by omega) (by omega)
    have e4 : wrap64 (m * p) = m * p := w64 (by omega) (by omega)
    have e5 : wrap64 (s * o - m * p) = s * o - m * p := w64 (by omega) (by omega)
    have e6 : wrap64 (m - s) = m - s := w64 (by omega) (by omega)
    have e7 : wrap64 ((m - s) * p) = (m - s) * p := w64 (by omega) (by omega)
    have e8 : wrap64 ((m - s) * p * o) = (m - s) * p * o := w64 (by omega) (by omega)
    rw [e1, e2, if_pos (by omega), if_pos (by omega), if_pos (by omega), decide_eq_true (by omega), if_neg (by simp), e3, e4, e5, e6, e7, e8]
    by_cases hz : s * o - m * p ≤ 0
    · rw [if_pos hz, if_pos hz]
    · rw [if_neg hz, if_neg hz]
  · rw [if_neg hC]
    unfold Two at hC
    by_cases h1 : 1 ≤ p ∧ p ≤ 20
    · have e1 : wrap64 (p + 1) = p + 1 := w64 (by omega) (by omega)
      rw [if_pos h1, e1]
      by_cases h2 : p + 1 ≤ o ∧ o ≤ 20
      · rw [if_pos h2]
        by_cases h3 : 1 ≤ s ∧ s ≤ 10000
        · have e2 : wrap64 (s + 1) = s + 1 := w64 (by omega) (by omega)
          rw [if_pos h3, e2, decide_eq_false (by omega), if_pos (by rfl)]
        · rw [if_neg h3]
          simp
      · rw [if_neg h2]
        simp
    · rw [if_neg h1]
      simp

/-- Yours: ∀ (a0 : Int) (a1 : Int) (a2 : Int) (a3 : Int), (Lit.int .i64 a0).wf = true → (Lit.int .i64 a1).wf = true → (Lit.int .i64 a2).wf = true → (Lit.int .i64 a3).wf = true → ∃ k, laws_FnExactSpeedFromTwo.f k a0 a1 a2 a3 = some true -/
theorem FnExactSpeedFromTwo : ∀ (a0 a1 a2 a3 : Int), (Lit.int .i64 a0).wf = true → (Lit.int .i64 a1).wf = true → (Lit.int .i64 a2).wf = true → (Lit.int .i64 a3).wf = true → ∃ k, laws_FnExactSpeedFromTwo.f k a0 a1 a2 a3 = some true := by
  intro p s o m _ _ _ _
  by_cases hC : Two p s o m
  · have hA : impl_areTwo.f p s o m = some true := by rw [areTwo_val, decide_eq_true hC]
    have hb := bounds_two hC
    have e3 : wrap64 (s * o) = s * o := w64 (by omega) (by omega)
    have e4 : wrap64 (m * p) = m * p := w64 (by omega) (by omega)
    have e5 : wrap64 (s * o - m * p) = s * o - m * p := w64 (by omega) (by omega)
    have e6 : wrap64 (m - s) = m - s := w64 (by unfold Two at hC; omega) (by unfold Two at hC; omega)
    have e7 : wrap64 ((m - s) * p) = (m - s) * p := w64 (by omega) (by omega)
    have e8 : wrap64 ((m - s) * p * o) = (m - s) * p * o := w64 (by omega) (by omega)
    by_cases hz : s * o - m * p ≤ 0
    · refine ⟨1, ?_⟩
      have hT : spec_moTwo.f 1 p s o m = some (0, 0, false) := by rw [moTwo_val, if_pos hC, if_pos hz]
      simp [laws_FnExactSpeedFromTwo.f, spec_SpeedFromTwo.f, impl_SpeedFromTwo.f, hA, hT, e3, e4, e5, e6, e7, e8, part_neg _ _ _ hz]
    · obtain ⟨k, x, y, hs, hi⟩ := low_part ((m - s) * p * o) (s * o - m * p) (by omega) (by omega)
      have hs' := spec_moLow.mono _ _ k _ hs
      have hi' := impl_part.mono _ _ k _ hi
      have hT : spec_moTwo.f (k + 1) p s o m = some ((m - s) * p * o, s * o - m * p, true) := by rw [moTwo_val, if_pos hC, if_neg hz]
      exact ⟨k + 1, by simp [laws_FnExactSpeedFromTwo.f, spec_SpeedFromTwo.f, impl_SpeedFromTwo.f, hA, hT, e3, e4, e5, e6, e7, e8, hs', hi']⟩
  · have hA : impl_areTwo.f p s o m = some false := by rw [areTwo_val, decide_eq_false hC]
    have hT : spec_moTwo.f 1 p s o m = some (0, 0, false) := by rw [moTwo_val, if_neg hC]
    exact ⟨1, by simp [laws_FnExactSpeedFromTwo.f, spec_SpeedFromTwo.f, impl_SpeedFromTwo.f, hA, hT]⟩

end Go.Proofs.Ytdmcnenlobgeoaa.Pure
