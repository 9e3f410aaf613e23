/- The pure statement of FnExactIsMoving: the printed function returns true for all arguments within their kinds; no other condition. -/
import Derived.Test.YtoahaemnhgieoaaPFnExactIsMovingx
namespace Go.Proofs.Ytoahaemnhgieoaa.Pure
open Go.RowKit Go.Proofs.Ytoahaemnhgieoaa.PFnExactIsMoving Go.Proofs.YtoahaemnhgieoaaW.PrintWords Go.Proofs.YtoahaemnhgieoaaW.PrintLast Go.Proofs.YtoahaemnhgieoaaW.PrintMore
set_option linter.unusedVariables false
set_option linter.unusedSimpArgs false
theorem in_val (a b c : Int) : spec_l1In.f a b c = some (decide (b ≤ a ∧ a ≤ c)) := by
  unfold spec_l1In.f
  by_cases h : b ≤ a <;> simp [h]
theorem within_val (a b c : Int) : impl_within.f a b c = some (decide (b ≤ a ∧ a ≤ c)) := by
  unfold impl_within.f
  by_cases h : b ≤ a <;> simp [h]

theorem moGood_val (v s : Int) : spec_moGood.f v s = some (decide ((1 ≤ v ∧ v ≤ 500) ∧ 0 ≤ s ∧ s ≤ 20)) := by
  unfold spec_moGood.f
  simp only [in_val, Option.bind_some]
  by_cases h : 1 ≤ v ∧ v ≤ 500 <;> simp [h]
theorem isMoving_val (v s : Int) : impl_IsMoving.f v s = some (decide ((1 ≤ v ∧ v ≤ 500) ∧ 0 ≤ s ∧ s ≤ 20)) := by
  unfold impl_IsMoving.f
  simp only [within_val, Option.bind_some]
  by_cases h : 1 ≤ v ∧ v ≤ 500 <;> simp [h]

/-- Yours: ∀ (a0_0 : Int) (a0_1 : Int), (Lit.int .i64 a0_0).wf = true → (Lit.int .i64 a0_1).wf = true → laws_FnExactIsMoving.f a0_0 a0_1 = some true -/
theorem FnExactIsMoving : ∀ (v s : Int), (Lit.int .i64 v).wf = true → (Lit.int .i64 s).wf = true → laws_FnExactIsMoving.f v s = some true := by
  intro v s _ _
  simp [laws_FnExactIsMoving.f, laws_toMoving.f, spec_IsMoving.f, moGood_val, isMoving_val]

end Go.Proofs.Ytoahaemnhgieoaa.Pure
