/- For every Radio and every hour, the program's Miss and the reference's give the same answer: the law's Go function answers true. No condition beyond the kinds of the numbers. -/
import Derived.Test.YtkdclkbgejbgjaaPFnExactMissx1
import Derived.Test.YtkdclkbgejbgjaaAid
namespace Go.Proofs.Ytkdclkbgejbgjaa.Pure
open Go.RowKit Go.Proofs.Ytkdclkbgejbgjaa.PFnExactMiss Go.Proofs.Ytkdclkbgejbgjaa.Aid Go.Proofs.YtkdclkbgejbgjaaW.PrintWords Go.Proofs.YtkdclkbgejbgjaaW.PrintLast Go.Proofs.YtkdclkbgejbgjaaW.PrintMore
set_option linter.unusedVariables false
set_option linter.unusedSimpArgs false
theorem l1In_eq (a b c : Int) : spec_l1In.f a b c = some (decide (b ≤ a ∧ a ≤ c)) := by
  unfold spec_l1In.f
  by_cases h : b ≤ a
  · rw [if_pos h]
    simp [h]
  · rw [if_neg h]
    simp [h]
theorem inRange_eq (a b c : Int) : impl_InRange.f a b c = some (decide (b ≤ a ∧ a ≤ c)) := by
  unfold impl_InRange.f
  by_cases h : b ≤ a
  · rw [if_pos h]
    simp [h]
  · rw [if_neg h]
    simp [h]

def radioOk (a b : Int) : Prop := (0 ≤ a ∧ a ≤ 100000) ∧ (0 ≤ b ∧ b ≤ 1000)
instance (a b : Int) : Decidable (radioOk a b) := inferInstanceAs (Decidable (_ ∧ _))
theorem impl_IsRadio_eq (a b : Int) : impl_IsRadio.f a b = some (decide (radioOk a b)) := by
  unfold impl_IsRadio.f radioOk
  simp only [inRange_eq, Option.bind_some]
  by_cases h0 : 0 ≤ a ∧ a ≤ 100000 <;> simp [h0]

theorem spec_IsRadio_eq (a b : Int) : spec_IsRadio.f a b = some (decide (radioOk a b)) := by
  unfold spec_IsRadio.f radioOk
  simp only [l1In_eq, Option.bind_some]
  by_cases h0 : 0 ≤ a ∧ a ≤ 100000 <;> simp [h0]

theorem miss_same (k : Nat) (a b h : Int) : spec_Miss.f k a b h = impl_Miss.f k a b h := by
  unfold spec_Miss.f impl_Miss.f
  cases k with
  | zero =>
    simp only [spec_IsRadio_eq, impl_IsRadio_eq, inRange_eq, Option.bind_some, spec_Miss.j0, impl_Miss.j0]
    simp
  | succ k =>
    simp only [spec_IsRadio_eq, impl_IsRadio_eq, inRange_eq, Option.bind_some, spec_Miss.j0, impl_Miss.j0]
    by_cases ht : radioOk a b
    · by_cases h0 : h < a
      · have n0 : ¬ (a ≤ h ∧ h ≤ 100000) := by omega
        simp [ht, h0, n0]
      · by_cases h1 : h > 100000
        · have n0 : ¬ (a ≤ h ∧ h ≤ 100000) := by omega
          simp [ht, h0, h1, n0]
        · have n0 : a ≤ h ∧ h ≤ 100000 := by omega
          simp [ht, h0, h1, n0]
    · simp [ht]
theorem miss_some (k : Nat) (a b h : Int) : ∃ r, impl_Miss.f (k + 1) a b h = some r := by
  unfold impl_Miss.f
  simp only [impl_IsRadio_eq, inRange_eq, Option.bind_some, impl_Miss.j0]
  repeat' split
  all_goals exact ⟨_, rfl⟩
def FnExactMiss.Claim : Prop := ∀ (a0_0 : Int) (a0_1 : Int) (a1 : Int), (Lit.int .i64 a0_0).wf = true → (Lit.int .i64 a0_1).wf = true → (Lit.int .i64 a1).wf = true → ∃ k, laws_FnExactMiss.f k a0_0 a0_1 a1 = some true
theorem FnExactMiss : FnExactMiss.Claim := by
  intro a b h _ _ _
  refine ⟨1, ?_⟩
  obtain ⟨r, hr⟩ := miss_some 0 a b h
  simp only [laws_FnExactMiss.f, laws_toRadio.f, laws_eqRadio.f, miss_same, Option.bind_some]
  rw [hr]
  simp
end Go.Proofs.Ytkdclkbgejbgjaa.Pure
