/- For every need and every number of days, the program's FoodEaten and the reference's give the same answer: the law's Go function answers true. No condition beyond the kinds of the numbers. -/
import Derived.Test.YtooneaiebkdbpaaPFnExactFoodEatenx1
import Derived.Test.YtooneaiebkdbpaaAid
namespace Go.Proofs.Ytooneaiebkdbpaa.Pure
open Go.RowKit Go.Proofs.Ytooneaiebkdbpaa.PFnExactFoodEaten Go.Proofs.Ytooneaiebkdbpaa.Aid Go.Proofs.YtooneaiebkdbpaaW.PrintWords Go.Proofs.YtooneaiebkdbpaaW.PrintLast Go.Proofs.YtooneaiebkdbpaaW.PrintMore
set_option linter.unusedVariables false
set_option linter.unusedSimpArgs false
theorem l1In_eq (a b c : Int) : spec_l1In.f a b c = some (decide (b ≤ a ∧ a ≤ c)) := by
  unfold spec_l1In.f
  by_cases h : b ≤ a
  · rw [if_pos h]
    simp [h]
  · rw [if_neg h]
    simp [h]
theorem inRange_eq (a b c : Int) : impl_InRange.f a b c = some (decide (b ≤ a ∧ a ≤ c)) := by
  unfold impl_InRange.f
  by_cases h : b ≤ a
  · rw [if_pos h]
    simp [h]
  · rw [if_neg h]
    simp [h]

theorem FnExactFoodEaten : laws_FnExactFoodEaten.Pure := by
  intro a b _ _
  simp only [laws_FnExactFoodEaten.f, spec_FoodEaten.f, impl_FoodEaten.f, l1In_eq, inRange_eq, Option.bind_some]
  split
  · split <;> simp
  · simp
end Go.Proofs.Ytooneaiebkdbpaa.Pure
