/- For every Radio, the program's IsAlarm and the reference's give the same answer: the law's Go function answers true. No condition beyond the kinds of the numbers. -/
import Derived.Test.YtooneaiebkdbpaaPFnExactIsAlarmx1
import Derived.Test.YtooneaiebkdbpaaAid
namespace Go.Proofs.Ytooneaiebkdbpaa.Pure
open Go.RowKit Go.Proofs.Ytooneaiebkdbpaa.PFnExactIsAlarm Go.Proofs.Ytooneaiebkdbpaa.Aid Go.Proofs.YtooneaiebkdbpaaW.PrintWords Go.Proofs.YtooneaiebkdbpaaW.PrintLast Go.Proofs.YtooneaiebkdbpaaW.PrintMore
set_option linter.unusedVariables false
set_option linter.unusedSimpArgs false
theorem l1In_eq (a b c : Int) : spec_l1In.f a b c = some (decide (b ≤ a ∧ a ≤ c)) := by
  unfold spec_l1In.f
  by_cases h : b ≤ a
  · rw [if_pos h]
    simp [h]
  · rw [if_neg h]
    simp [h]
theorem inRange_eq (a b c : Int) : impl_InRange.f a b c = some (decide (b ≤ a ∧ a ≤ c)) := by
  unfold impl_InRange.f
  by_cases h : b ≤ a
  · rw [if_pos h]
    simp [h]
  · rw [if_neg h]
    simp [h]

def FnExactIsAlarm.Claim : Prop := ∀ (a0_0 : Int) (a0_1 : Int), (Lit.int .i64 a0_0).wf = true → (Lit.int .i64 a0_1).wf = true → laws_FnExactIsAlarm.f a0_0 a0_1 = some true
theorem FnExactIsAlarm : FnExactIsAlarm.Claim := by
  intro a b _ _
  simp only [laws_FnExactIsAlarm.f, laws_toRadio.f, spec_IsRadio.f, impl_IsRadio.f, spec_IsAlarm.f, impl_IsAlarm.f, l1In_eq, inRange_eq, Option.bind_some]
  by_cases h0 : 0 ≤ a ∧ a ≤ 100000
  · by_cases h1 : 0 ≤ b ∧ b ≤ 1000
    · simp [h0, h1]
    · simp [h0, h1]
  · simp [h0]
end Go.Proofs.Ytooneaiebkdbpaa.Pure
