/- The pure statement of FnExactFullHouse: the printed function returns true for all arguments within their kinds; no other condition. -/
import Derived.Test.YtoahaemnhgieoaaPFnExactFullHousex
namespace Go.Proofs.Ytoahaemnhgieoaa.Pure
open Go.RowKit Go.Proofs.Ytoahaemnhgieoaa.PFnExactFullHouse Go.Proofs.YtoahaemnhgieoaaW.PrintWords Go.Proofs.YtoahaemnhgieoaaW.PrintLast Go.Proofs.YtoahaemnhgieoaaW.PrintMore
set_option linter.unusedVariables false
set_option linter.unusedSimpArgs false
theorem in_val (a b c : Int) : spec_l1In.f a b c = some (decide (b ≤ a ∧ a ≤ c)) := by
  unfold spec_l1In.f
  by_cases h : b ≤ a <;> simp [h]
theorem within_val (a b c : Int) : impl_within.f a b c = some (decide (b ≤ a ∧ a ≤ c)) := by
  unfold impl_within.f
  by_cases h : b ≤ a <;> simp [h]

theorem moGood_val (v s : Int) : spec_moGood.f v s = some (decide ((1 ≤ v ∧ v ≤ 500) ∧ 0 ≤ s ∧ s ≤ 20)) := by
  unfold spec_moGood.f
  simp only [in_val, Option.bind_some]
  by_cases h : 1 ≤ v ∧ v ≤ 500 <;> simp [h]
theorem isMoving_val (v s : Int) : impl_IsMoving.f v s = some (decide ((1 ≤ v ∧ v ≤ 500) ∧ 0 ≤ s ∧ s ≤ 20)) := by
  unfold impl_IsMoving.f
  simp only [within_val, Option.bind_some]
  by_cases h : 1 ≤ v ∧ v ≤ 500 <;> simp [h]

theorem gcd_val : ∀ (k n m : Nat), n ≤ k → impl_gcd.l0 (k + 1) (m : Int) (n : Int) = some ((Nat.gcd m n : Nat) : Int) := by
  intro k
  induction k with
  | zero =>
    intro n m h
    obtain rfl : n = 0 := by omega
    simp [impl_gcd.l0]
  | succ k ih =>
    intro n m h
    unfold impl_gcd.l0
    by_cases h0 : n = 0
    · subst h0
      simp
    · have hn : 0 < n := by omega
      rw [if_neg (by omega), ← Int.ofNat_tmod]
      rw [ih (m % n) n (by have := Nat.mod_lt m hn; omega)]
      congr 2
      rw [Nat.gcd_comm n, ← Nat.gcd_rec, Nat.gcd_comm]
theorem part_neg (k : Nat) (n d : Int) (h : d ≤ 0) : impl_part.f k n d = some (0, 0, false) := by
  unfold impl_part.f
  rw [if_pos h]
theorem part_val (n d k : Nat) (hd : 0 < d) (hk : d ≤ k) :
    impl_part.f (k + 1) (n : Int) (d : Int) = some (wrap64 (((n : Int)).tdiv (Nat.gcd n d : Nat)), wrap64 ((d : Int).tdiv (Nat.gcd n d : Nat)), true) := by
  have hg : 0 < Nat.gcd n d := Nat.gcd_pos_of_pos_right n hd
  unfold impl_part.f impl_gcd.f
  rw [if_neg (by omega), gcd_val k d n hk]
  simp only [Option.bind_some]
  rw [if_neg (by omega)]

theorem w64 {x : Int} (h0 : -9223372036854775808 ≤ x) (h1 : x ≤ 9223372036854775807) : wrap64 x = x := by
  unfold wrap64
  omega
theorem mul_bd {a b A B : Int} (ha : 0 ≤ a) (hA : a ≤ A) (hb : 0 ≤ b) (hB : b ≤ B) : 0 ≤ a * b ∧ a * b ≤ A * B :=
  ⟨Int.mul_nonneg ha hb, Int.mul_le_mul hA hB hb (Int.le_trans ha hA)⟩

/-- Yours: ∀ (a0_0 : Int) (a0_1 : Int) (a1 : Int), (Lit.int .i64 a0_0).wf = true → (Lit.int .i64 a0_1).wf = true → (Lit.int .i64 a1).wf = true → ∃ k, laws_FnExactFullHouse.f k a0_0 a0_1 a1 = some true -/
theorem FnExactFullHouse : ∀ (v s e : Int), (Lit.int .i64 v).wf = true → (Lit.int .i64 s).wf = true → (Lit.int .i64 e).wf = true → ∃ k, laws_FnExactFullHouse.f k v s e = some true := by
  intro v s e _ _ _
  by_cases h1 : (1 ≤ v ∧ v ≤ 500) ∧ 0 ≤ s ∧ s ≤ 20
  · have hM : impl_IsMoving.f v s = some true := by rw [isMoving_val, decide_eq_true h1]
    have hA : spec_moGood.f v s = some true := by rw [moGood_val, decide_eq_true h1]
    by_cases h2 : 1 ≤ e ∧ e ≤ 5
    · have hI : spec_l1In.f e 1 5 = some true := by rw [in_val, decide_eq_true h2]
      have hW : impl_within.f e 1 5 = some true := by rw [within_val, decide_eq_true h2]
      have hb := mul_bd (a := 60 * s) (A := 1200) (b := e) (B := 5) (by omega) (by omega) (by omega) (by omega)
      have e1 : wrap64 (60 * s) = 60 * s := w64 (by omega) (by omega)
      have e2 : wrap64 (60 * s * e) = 60 * s * e := w64 (by omega) (by omega)
      obtain ⟨n, hn⟩ := Int.eq_ofNat_of_zero_le hb.1
      have hp := part_val n 1 1 (by omega) (by omega)
      rw [Nat.gcd_one_right] at hp
      have e3 : wrap64 (n : Int) = n := by rw [← hn]; exact e2
      have e4 : wrap64 1 = 1 := w64 (by omega) (by omega)
      refine ⟨2, ?_⟩
      simp only [Int.natCast_one, Int.tdiv_one, e3, e4] at hp
      simp [laws_FnExactFullHouse.f, laws_toMoving.f, spec_FullHouse.f, impl_FullHouse.f, hM, hA, hI, hW, e1, e2, hn, e3, hp]
    · have hI : spec_l1In.f e 1 5 = some false := by rw [in_val, decide_eq_false h2]
      have hW : impl_within.f e 1 5 = some false := by rw [within_val, decide_eq_false h2]
      exact ⟨1, by simp [laws_FnExactFullHouse.f, laws_toMoving.f, spec_FullHouse.f, impl_FullHouse.f, hM, hA, hI, hW]⟩
  · have hM : impl_IsMoving.f v s = some false := by rw [isMoving_val, decide_eq_false h1]
    have hA : spec_moGood.f v s = some false := by rw [moGood_val, decide_eq_false h1]
    exact ⟨1, by simp [laws_FnExactFullHouse.f, laws_toMoving.f, spec_FullHouse.f, impl_FullHouse.f, hM, hA]⟩

end Go.Proofs.Ytoahaemnhgieoaa.Pure
