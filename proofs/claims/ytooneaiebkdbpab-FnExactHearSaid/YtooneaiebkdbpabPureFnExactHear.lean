/- For every Radio and every hour, the program's Hear and the reference's give the same answer: the law's Go function answers true. No condition beyond the kinds of the numbers. -/
import Derived.Test.YtooneaiebkdbpabPFnExactHearx1
import Derived.Test.YtooneaiebkdbpabAid
namespace Go.Proofs.Ytooneaiebkdbpab.Pure
open Go.RowKit Go.Proofs.Ytooneaiebkdbpab.PFnExactHear Go.Proofs.Ytooneaiebkdbpab.Aid Go.Proofs.YtooneaiebkdbpabW.PrintWords Go.Proofs.YtooneaiebkdbpabW.PrintLast Go.Proofs.YtooneaiebkdbpabW.PrintMore
set_option linter.unusedVariables false
set_option linter.unusedSimpArgs false
theorem l1In_eq (a b c : Int) : spec_l1In.f a b c = some (decide (b ≤ a ∧ a ≤ c)) := by
  unfold spec_l1In.f
  by_cases h : b ≤ a
  · rw [if_pos h]
    simp [h]
  · rw [if_neg h]
    simp [h]
theorem inRange_eq (a b c : Int) : impl_InRange.f a b c = some (decide (b ≤ a ∧ a ≤ c)) := by
  unfold impl_InRange.f
  by_cases h : b ≤ a
  · rw [if_pos h]
    simp [h]
  · rw [if_neg h]
    simp [h]

def radioOk (a b : Int) : Prop := (0 ≤ a ∧ a ≤ 100000) ∧ (0 ≤ b ∧ b ≤ 1000)
instance (a b : Int) : Decidable (radioOk a b) := inferInstanceAs (Decidable (_ ∧ _))
theorem impl_IsRadio_eq (a b : Int) : impl_IsRadio.f a b = some (decide (radioOk a b)) := by
  unfold impl_IsRadio.f radioOk
  simp only [inRange_eq, Option.bind_some]
  by_cases h0 : 0 ≤ a ∧ a ≤ 100000 <;> simp [h0]

theorem spec_IsRadio_eq (a b : Int) : spec_IsRadio.f a b = some (decide (radioOk a b)) := by
  unfold spec_IsRadio.f radioOk
  simp only [l1In_eq, Option.bind_some]
  by_cases h0 : 0 ≤ a ∧ a ≤ 100000 <;> simp [h0]

def FnExactHear.Claim : Prop := ∀ (a0_0 : Int) (a0_1 : Int) (a1 : Int), (Lit.int .i64 a0_0).wf = true → (Lit.int .i64 a0_1).wf = true → (Lit.int .i64 a1).wf = true → laws_FnExactHear.f a0_0 a0_1 a1 = some true
theorem FnExactHear : FnExactHear.Claim := by
  intro a b h _ _ _
  simp only [laws_FnExactHear.f, laws_toRadio.f, laws_eqRadio.f, spec_Hear.f, impl_Hear.f, spec_IsRadio_eq, impl_IsRadio_eq, inRange_eq, Option.bind_some]
  by_cases ht : radioOk a b
  · by_cases h0 : h < a
    · have n0 : ¬ (a ≤ h ∧ h ≤ 100000) := by omega
      simp [ht, h0, n0]
    · by_cases h1 : h > 100000
      · have n0 : ¬ (a ≤ h ∧ h ≤ 100000) := by omega
        simp [ht, h0, h1, n0]
      · have n0 : a ≤ h ∧ h ≤ 100000 := by omega
        simp [ht, h0, h1, n0]
  · simp [ht]
end Go.Proofs.Ytooneaiebkdbpab.Pure
