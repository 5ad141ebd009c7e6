/- For every load and every need, the program's OutDays and the reference's give the same answer: the law's Go function answers true. No condition beyond the kinds of the numbers. -/
import Derived.Test.YtooneaiebkdbpaaPFnExactOutDaysx1
import Derived.Test.YtooneaiebkdbpaaAid
namespace Go.Proofs.Ytooneaiebkdbpaa.Pure
open Go.RowKit Go.Proofs.Ytooneaiebkdbpaa.PFnExactOutDays Go.Proofs.Ytooneaiebkdbpaa.Aid Go.Proofs.YtooneaiebkdbpaaW.PrintWords Go.Proofs.YtooneaiebkdbpaaW.PrintLast Go.Proofs.YtooneaiebkdbpaaW.PrintMore
set_option linter.unusedVariables false
set_option linter.unusedSimpArgs false
theorem l1In_eq (a b c : Int) : spec_l1In.f a b c = some (decide (b ≤ a ∧ a ≤ c)) := by
  unfold spec_l1In.f
  by_cases h : b ≤ a
  · rw [if_pos h]
    simp [h]
  · rw [if_neg h]
    simp [h]
theorem inRange_eq (a b c : Int) : impl_InRange.f a b c = some (decide (b ≤ a ∧ a ≤ c)) := by
  unfold impl_InRange.f
  by_cases h : b ≤ a
  · rw [if_pos h]
    simp [h]
  · rw [if_neg h]
    simp [h]

theorem FnExactOutDays : laws_FnExactOutDays.Pure := by
  intro a b _ _
  simp only [laws_FnExactOutDays.f, spec_OutDays.f, impl_OutDays.f, spec_l13Ok.f, impl_areLoads.f, l1In_eq, inRange_eq, Option.bind_some]
  by_cases h0 : 0 ≤ a ∧ a ≤ 10000
  · by_cases h1 : 1 ≤ b ∧ b ≤ 100
    · have e : wrap64 (2 * b) = 2 * b := wrapId (by omega) (by omega)
      have ne : ¬ 2 * b = 0 := by omega
      simp [h0, h1, e, ne]
    · simp [h0, h1]
  · simp [h0]
end Go.Proofs.Ytooneaiebkdbpaa.Pure
