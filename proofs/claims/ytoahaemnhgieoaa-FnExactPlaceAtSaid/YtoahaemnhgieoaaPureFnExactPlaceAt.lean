/- The pure statement of FnExactPlaceAt: the printed function returns true for all arguments within their kinds; no other condition. -/
import Derived.Test.YtoahaemnhgieoaaPFnExactPlaceAtx
namespace Go.Proofs.Ytoahaemnhgieoaa.Pure
open Go.RowKit Go.Proofs.Ytoahaemnhgieoaa.PFnExactPlaceAt Go.Proofs.YtoahaemnhgieoaaW.PrintWords Go.Proofs.YtoahaemnhgieoaaW.PrintLast Go.Proofs.YtoahaemnhgieoaaW.PrintMore
set_option linter.unusedVariables false
set_option linter.unusedSimpArgs false
theorem in_val (a b c : Int) : spec_l1In.f a b c = some (decide (b ≤ a ∧ a ≤ c)) := by
  unfold spec_l1In.f
  by_cases h : b ≤ a <;> simp [h]
theorem within_val (a b c : Int) : impl_within.f a b c = some (decide (b ≤ a ∧ a ≤ c)) := by
  unfold impl_within.f
  by_cases h : b ≤ a <;> simp [h]

theorem moGood_val (v s : Int) : spec_moGood.f v s = some (decide ((1 ≤ v ∧ v ≤ 500) ∧ 0 ≤ s ∧ s ≤ 20)) := by
  unfold spec_moGood.f
  simp only [in_val, Option.bind_some]
  by_cases h : 1 ≤ v ∧ v ≤ 500 <;> simp [h]
theorem isMoving_val (v s : Int) : impl_IsMoving.f v s = some (decide ((1 ≤ v ∧ v ≤ 500) ∧ 0 ≤ s ∧ s ≤ 20)) := by
  unfold impl_IsMoving.f
  simp only [within_val, Option.bind_some]
  by_cases h : 1 ≤ v ∧ v ≤ 500 <;> simp [h]

theorem moAsked_val (v s p : Int) : spec_moAsked.f v s p = some (decide (((1 ≤ v ∧ v ≤ 500) ∧ 0 ≤ s ∧ s ≤ 20) ∧ 0 ≤ p ∧ p ≤ 20)) := by
  unfold spec_moAsked.f
  simp only [moGood_val, in_val, Option.bind_some]
  by_cases h : (1 ≤ v ∧ v ≤ 500) ∧ 0 ≤ s ∧ s ≤ 20
  · simp only [h, decide_true, if_true, true_and]
  · simp only [h, decide_false, false_and]; rfl
theorem isPace_val (p : Int) : impl_isPace.f p = some (decide (0 ≤ p ∧ p ≤ 20)) := by
  unfold impl_isPace.f
  simp only [within_val, Option.bind_some]

/-- Yours: ∀ (a0_0 : Int) (a0_1 : Int) (a1 : Int) (a2 : Int), (Lit.int .i64 a0_0).wf = true → (Lit.int .i64 a0_1).wf = true → (Lit.int .i64 a1).wf = true → (Lit.int .i64 a2).wf = true → laws_FnExactPlaceAt.f a0_0 a0_1 a1 a2 = some true -/
theorem least_val (a b : Int) : spec_l1Least.f a b = some (mn a b) := by
  unfold spec_l1Least.f mn
  by_cases h : a < b
  · rw [if_pos h, if_neg (by omega)]
  · by_cases h2 : b < a
    · rw [if_neg h, if_pos h2]
    · rw [if_neg h, if_neg h2]
      congr 1
      omega
theorem FnExactPlaceAt : ∀ (v s p t : Int), (Lit.int .i64 v).wf = true → (Lit.int .i64 s).wf = true → (Lit.int .i64 p).wf = true → (Lit.int .i64 t).wf = true → laws_FnExactPlaceAt.f v s p t = some true := by
  intro v s p t _ _ _ _
  by_cases h1 : (1 ≤ v ∧ v ≤ 500) ∧ 0 ≤ s ∧ s ≤ 20
  · have hM : impl_IsMoving.f v s = some true := by rw [isMoving_val, decide_eq_true h1]
    by_cases h2 : 0 ≤ p ∧ p ≤ 20
    · have hA : spec_moAsked.f v s p = some true := by rw [moAsked_val, decide_eq_true ⟨h1, h2⟩]
      have hP : impl_isPace.f p = some true := by rw [isPace_val, decide_eq_true h2]
      simp only [laws_FnExactPlaceAt.f, laws_toMoving.f, spec_PlaceAt.f, impl_PlaceAt.f, hM, hA, hP, in_val, within_val, least_val, Option.bind_some, if_true]
      by_cases h3 : 0 ≤ t ∧ t ≤ 1000
      · simp [h3]
      · rw [decide_eq_false h3]
        simp
    · have hA : spec_moAsked.f v s p = some false := by rw [moAsked_val, decide_eq_false (fun h => h2 h.2)]
      have hP : impl_isPace.f p = some false := by rw [isPace_val, decide_eq_false h2]
      simp [laws_FnExactPlaceAt.f, laws_toMoving.f, spec_PlaceAt.f, impl_PlaceAt.f, hM, hA, hP]
  · have hM : impl_IsMoving.f v s = some false := by rw [isMoving_val, decide_eq_false h1]
    have hA : spec_moAsked.f v s p = some false := by rw [moAsked_val, decide_eq_false (fun h => h1 h.1)]
    simp [laws_FnExactPlaceAt.f, laws_toMoving.f, spec_PlaceAt.f, impl_PlaceAt.f, hM, hA]

end Go.Proofs.Ytoahaemnhgieoaa.Pure
