/- The pure statement of FnExactVisibleFromBoth: the printed function returns true for all arguments within their kinds; no other condition. -/
import Derived.Test.YtoahaemnhgieoaaPFnExactVisibleFromBothx
namespace Go.Proofs.Ytoahaemnhgieoaa.Pure
open Go.RowKit Go.Proofs.Ytoahaemnhgieoaa.PFnExactVisibleFromBoth Go.Proofs.YtoahaemnhgieoaaW.PrintWords Go.Proofs.YtoahaemnhgieoaaW.PrintLast Go.Proofs.YtoahaemnhgieoaaW.PrintMore
set_option linter.unusedVariables false
set_option linter.unusedSimpArgs false
theorem in_val (a b c : Int) : spec_l1In.f a b c = some (decide (b ≤ a ∧ a ≤ c)) := by
  unfold spec_l1In.f
  by_cases h : b ≤ a <;> simp [h]
theorem within_val (a b c : Int) : impl_within.f a b c = some (decide (b ≤ a ∧ a ≤ c)) := by
  unfold impl_within.f
  by_cases h : b ≤ a <;> simp [h]

theorem gcd_val : ∀ (k n m : Nat), n ≤ k → impl_gcd.l0 (k + 1) (m : Int) (n : Int) = some ((Nat.gcd m n : Nat) : Int) := by
  intro k
  induction k with
  | zero =>
    intro n m h
    obtain rfl : n = 0 := by omega
    simp [impl_gcd.l0]
  | succ k ih =>
    intro n m h
    unfold impl_gcd.l0
    by_cases h0 : n = 0
    · subst h0
      simp
    · have hn : 0 < n := by omega
      rw [if_neg (by omega), ← Int.ofNat_tmod]
      rw [ih (m % n) n (by have := Nat.mod_lt m hn; omega)]
      congr 2
      rw [Nat.gcd_comm n, ← Nat.gcd_rec, Nat.gcd_comm]
theorem part_neg (k : Nat) (n d : Int) (h : d ≤ 0) : impl_part.f k n d = some (0, 0, false) := by
  unfold impl_part.f
  rw [if_pos h]
theorem part_val (n d k : Nat) (hd : 0 < d) (hk : d ≤ k) :
    impl_part.f (k + 1) (n : Int) (d : Int) = some (wrap64 (((n : Int)).tdiv (Nat.gcd n d : Nat)), wrap64 ((d : Int).tdiv (Nat.gcd n d : Nat)), true) := by
  have hg : 0 < Nat.gcd n d := Nat.gcd_pos_of_pos_right n hd
  unfold impl_part.f impl_gcd.f
  rw [if_neg (by omega), gcd_val k d n hk]
  simp only [Option.bind_some]
  rw [if_neg (by omega)]

theorem low_val (x y : Int) : ∀ (k n m : Nat), n ≤ k → 0 < m + n →
    spec_moLow.l0 (k + 1) x y (m : Int) (n : Int) = some (wrap64 (x.tdiv (Nat.gcd m n : Nat)), wrap64 (y.tdiv (Nat.gcd m n : Nat))) := by
  intro k
  induction k with
  | zero =>
    intro n m h hp
    obtain rfl : n = 0 := by omega
    unfold spec_moLow.l0
    rw [if_neg (by omega), if_neg (by omega)]
    simp
  | succ k ih =>
    intro n m h hp
    unfold spec_moLow.l0
    by_cases h0 : n = 0
    · subst h0
      rw [if_neg (by omega), if_neg (by omega)]
      simp
    · have hn : 0 < n := by omega
      rw [if_pos (by omega), if_neg (by omega), ← Int.ofNat_tmod]
      rw [ih (m % n) n (by have := Nat.mod_lt m hn; omega) (by omega)]
      have e : Nat.gcd n (m % n) = Nat.gcd m n := by rw [Nat.gcd_comm n, ← Nat.gcd_rec, Nat.gcd_comm]
      rw [e]
/-- Both programs bring a fraction to lowest terms alike. -/
theorem low_part (n d : Int) (hn : 0 ≤ n) (hd : 0 < d) : ∃ k x y, spec_moLow.f k n d = some (x, y) ∧ impl_part.f k n d = some (x, y, true) := by
  obtain ⟨n, rfl⟩ := Int.eq_ofNat_of_zero_le hn
  obtain ⟨d, rfl⟩ := Int.eq_ofNat_of_zero_le (Int.le_of_lt hd)
  have hd' : 0 < d := by omega
  refine ⟨d + 1, _, _, low_val _ _ d d n (Nat.le_refl _) (by omega), part_val n d d hd' (Nat.le_refl _)⟩
theorem w64 {x : Int} (h0 : -9223372036854775808 ≤ x) (h1 : x ≤ 9223372036854775807) : wrap64 x = x := by
  unfold wrap64
  omega
theorem mul_bd {a b A B : Int} (ha : 0 ≤ a) (hA : a ≤ A) (hb : 0 ≤ b) (hB : b ≤ B) : 0 ≤ a * b ∧ a * b ≤ A * B :=
  ⟨Int.mul_nonneg ha hb, Int.mul_le_mul hA hB hb (Int.le_trans ha hA)⟩
theorem wz : wrap64 0 = 0 := w64 (by omega) (by omega)

/-- Yours: ∀ (a0 : Int) (a1 : Int) (a2 : Int), (Lit.int .i64 a0).wf = true → (Lit.int .i64 a1).wf = true → (Lit.int .i64 a2).wf = true → ∃ k, laws_FnExactVisibleFromBoth.f k a0 a1 a2 = some true -/
theorem isCount_val (n : Int) : impl_isCount.f n = some (decide (1 ≤ n ∧ n ≤ 10000)) := by
  unfold impl_isCount.f
  simp only [within_val, Option.bind_some]
theorem FnExactVisibleFromBoth : ∀ (p a b : Int), (Lit.int .i64 p).wf = true → (Lit.int .i64 a).wf = true → (Lit.int .i64 b).wf = true → ∃ k, laws_FnExactVisibleFromBoth.f k p a b = some true := by
  intro p a b _ _ _
  by_cases h1 : 1 ≤ p ∧ p ≤ 20
  · have p1 : spec_l1In.f p 1 20 = some true := by rw [in_val, decide_eq_true h1]
    have q1 : impl_within.f p 1 20 = some true := by rw [within_val, decide_eq_true h1]
    by_cases h2 : 1 ≤ a ∧ a ≤ 10000
    · have p2 : spec_l1In.f a 1 10000 = some true := by rw [in_val, decide_eq_true h2]
      have q2 : impl_isCount.f a = some true := by rw [isCount_val, decide_eq_true h2]
      by_cases h3 : a ≤ b ∧ b ≤ 10000
      · have p3 : spec_l1In.f b a 10000 = some true := by rw [in_val, decide_eq_true h3]
        have q3 : impl_isCount.f b = some true := by rw [isCount_val, decide_eq_true ⟨by omega, h3.2⟩]
        have hb := mul_bd (a := 2 * a) (A := 20000) (b := b) (B := 10000) (by omega) (by omega) (by omega) (by omega)
        have e1 : wrap64 (2 * a) = 2 * a := w64 (by omega) (by omega)
        have e2 : wrap64 (2 * a * b) = 2 * a * b := w64 (by omega) (by omega)
        have e3 : wrap64 (a + b) = a + b := w64 (by omega) (by omega)
        have e4 : ¬ b < a := by omega
        obtain ⟨k, x, y, hs, hi⟩ := low_part (2 * a * b) (a + b) hb.1 (by omega)
        exact ⟨k, by simp [laws_FnExactVisibleFromBoth.f, spec_VisibleFromBoth.f, impl_VisibleFromBoth.f, p1, q1, p2, q2, p3, q3, e1, e2, e3, e4, hs, hi]⟩
      · have p3 : spec_l1In.f b a 10000 = some false := by rw [in_val, decide_eq_false h3]
        refine ⟨1, ?_⟩
        by_cases h4 : 1 ≤ b ∧ b ≤ 10000
        · have q3 : impl_isCount.f b = some true := by rw [isCount_val, decide_eq_true h4]
          have e4 : b < a := by omega
          simp [laws_FnExactVisibleFromBoth.f, spec_VisibleFromBoth.f, impl_VisibleFromBoth.f, p1, q1, p2, q2, p3, q3, e4]
        · have q3 : impl_isCount.f b = some false := by rw [isCount_val, decide_eq_false h4]
          simp [laws_FnExactVisibleFromBoth.f, spec_VisibleFromBoth.f, impl_VisibleFromBoth.f, p1, q1, p2, q2, p3, q3]
    · have p2 : spec_l1In.f a 1 10000 = some false := by rw [in_val, decide_eq_false h2]
      have q2 : impl_isCount.f a = some false := by rw [isCount_val, decide_eq_false h2]
      exact ⟨1, by simp [laws_FnExactVisibleFromBoth.f, spec_VisibleFromBoth.f, impl_VisibleFromBoth.f, p1, q1, p2, q2]⟩
  · have p1 : spec_l1In.f p 1 20 = some false := by rw [in_val, decide_eq_false h1]
    have q1 : impl_within.f p 1 20 = some false := by rw [within_val, decide_eq_false h1]
    exact ⟨1, by simp [laws_FnExactVisibleFromBoth.f, spec_VisibleFromBoth.f, impl_VisibleFromBoth.f, p1, q1]⟩

end Go.Proofs.Ytoahaemnhgieoaa.Pure
