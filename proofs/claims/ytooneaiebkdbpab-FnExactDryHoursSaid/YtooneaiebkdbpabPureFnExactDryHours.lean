/- For every Tide, the program's DryHours and the reference's give the same answer: the law's Go function answers true. No condition beyond the kinds of the numbers. -/
import Derived.Test.YtooneaiebkdbpabPFnExactDryHoursx1
import Derived.Test.YtooneaiebkdbpabAid
namespace Go.Proofs.Ytooneaiebkdbpab.Pure
open Go.RowKit Go.Proofs.Ytooneaiebkdbpab.PFnExactDryHours Go.Proofs.Ytooneaiebkdbpab.Aid Go.Proofs.YtooneaiebkdbpabW.PrintWords Go.Proofs.YtooneaiebkdbpabW.PrintLast Go.Proofs.YtooneaiebkdbpabW.PrintMore
set_option linter.unusedVariables false
set_option linter.unusedSimpArgs false
theorem l1In_eq (a b c : Int) : spec_l1In.f a b c = some (decide (b ≤ a ∧ a ≤ c)) := by
  unfold spec_l1In.f
  by_cases h : b ≤ a
  · rw [if_pos h]
    simp [h]
  · rw [if_neg h]
    simp [h]
theorem inRange_eq (a b c : Int) : impl_InRange.f a b c = some (decide (b ≤ a ∧ a ≤ c)) := by
  unfold impl_InRange.f
  by_cases h : b ≤ a
  · rw [if_pos h]
    simp [h]
  · rw [if_neg h]
    simp [h]

def tideOk (a b : Int) : Prop := (0 ≤ a ∧ a ≤ 11) ∧ (0 ≤ b ∧ b ≤ 5)
instance (a b : Int) : Decidable (tideOk a b) := inferInstanceAs (Decidable (_ ∧ _))
theorem spec_IsTide_eq (a b : Int) : spec_IsTide.f a b = some (decide (tideOk a b)) := by
  unfold spec_IsTide.f tideOk
  simp only [l1In_eq, Option.bind_some]
  by_cases h0 : 0 ≤ a ∧ a ≤ 11 <;> simp [h0]
theorem impl_IsTide_eq (a b : Int) : impl_IsTide.f a b = some (decide (tideOk a b)) := by
  unfold impl_IsTide.f tideOk
  simp only [inRange_eq, Option.bind_some]
  by_cases h0 : 0 ≤ a ∧ a ≤ 11 <;> simp [h0]

def FnExactDryHours.Claim : Prop := ∀ (a0_0 : Int) (a0_1 : Int), (Lit.int .i64 a0_0).wf = true → (Lit.int .i64 a0_1).wf = true → laws_FnExactDryHours.f a0_0 a0_1 = some true
theorem FnExactDryHours : FnExactDryHours.Claim := by
  intro a b _ _
  simp only [laws_FnExactDryHours.f, laws_toTide.f, spec_DryHours.f, impl_DryHours.f, spec_IsTide_eq, impl_IsTide_eq, Option.bind_some]
  by_cases ht : tideOk a b <;> simp [ht]
end Go.Proofs.Ytooneaiebkdbpab.Pure
