/- For every load, need and number of days, the program's SpareAt and the reference's give the same answer: the law's Go function answers true. No condition beyond the kinds of the numbers. -/
import Derived.Test.YtooneaiebkdbpabPFnExactSpareAtx1
import Derived.Test.YtooneaiebkdbpabAid
namespace Go.Proofs.Ytooneaiebkdbpab.Pure
open Go.RowKit Go.Proofs.Ytooneaiebkdbpab.PFnExactSpareAt Go.Proofs.Ytooneaiebkdbpab.Aid Go.Proofs.YtooneaiebkdbpabW.PrintWords Go.Proofs.YtooneaiebkdbpabW.PrintLast Go.Proofs.YtooneaiebkdbpabW.PrintMore
set_option linter.unusedVariables false
set_option linter.unusedSimpArgs false
theorem l1In_eq (a b c : Int) : spec_l1In.f a b c = some (decide (b ≤ a ∧ a ≤ c)) := by
  unfold spec_l1In.f
  by_cases h : b ≤ a
  · rw [if_pos h]
    simp [h]
  · rw [if_neg h]
    simp [h]
theorem inRange_eq (a b c : Int) : impl_InRange.f a b c = some (decide (b ≤ a ∧ a ≤ c)) := by
  unfold impl_InRange.f
  by_cases h : b ≤ a
  · rw [if_pos h]
    simp [h]
  · rw [if_neg h]
    simp [h]

def loadsOk (a b : Int) : Prop := (0 ≤ a ∧ a ≤ 10000) ∧ (1 ≤ b ∧ b ≤ 100)
instance (a b : Int) : Decidable (loadsOk a b) := inferInstanceAs (Decidable (_ ∧ _))
theorem impl_areLoads_eq (a b : Int) : impl_areLoads.f a b = some (decide (loadsOk a b)) := by
  unfold impl_areLoads.f loadsOk
  simp only [inRange_eq, Option.bind_some]
  by_cases h0 : 0 ≤ a ∧ a ≤ 10000 <;> simp [h0]
/-- What one can leave. -/
def spare (a b d : Int) : Int := if loadsOk a b ∧ (0 ≤ d ∧ d ≤ 1000) then (if a - 2 * b * d < -1 then -1 else a - 2 * b * d) else -1
theorem prodBound {b d : Int} (hb : 1 ≤ b ∧ b ≤ 100) (hd : 0 ≤ d ∧ d ≤ 1000) : 0 ≤ 2 * b * d ∧ 2 * b * d ≤ 200000 := by
  have h0 : 0 ≤ b * d := Int.mul_nonneg (by omega) (by omega)
  have h1 : b * d ≤ 100 * 1000 := Int.mul_le_mul (by omega) (by omega) (by omega) (by omega)
  have e : 2 * b * d = 2 * (b * d) := Int.mul_assoc 2 b d
  omega
theorem impl_SpareAt_eq (a b d : Int) : impl_SpareAt.f a b d = some (spare a b d) := by
  unfold impl_SpareAt.f spare
  simp only [impl_areLoads_eq, inRange_eq, Option.bind_some]
  by_cases h0 : loadsOk a b
  · by_cases h1 : 0 ≤ d ∧ d ≤ 1000
    · have h0' := h0
      unfold loadsOk at h0'
      have pb := prodBound h0'.2 h1
      rw [wrapId (n := 2 * b) (by omega) (by omega), wrapId (n := 2 * b * d) (by omega) (by omega), wrapId (n := a - 2 * b * d) (by omega) (by omega)]
      simp [h0, h1, mx]
    · simp [h0, h1]
  · simp [h0]

theorem spec_Max_eq (a b : Int) : spec_Max.f a b = some (if b > a then b else a) := by
  unfold spec_Max.f
  split <;> rfl
theorem spec_l13Ok_eq (a b : Int) : spec_l13Ok.f a b = some (decide (loadsOk a b)) := by
  unfold spec_l13Ok.f loadsOk
  simp only [l1In_eq, Option.bind_some]
  by_cases h0 : 0 ≤ a ∧ a ≤ 10000 <;> simp [h0]
theorem spec_SpareAt_eq (a b d : Int) : spec_SpareAt.f a b d = some (spare a b d) := by
  unfold spec_SpareAt.f spare
  simp only [spec_l13Ok_eq, l1In_eq, spec_Max_eq, Option.bind_some]
  by_cases h0 : loadsOk a b
  · by_cases h1 : 0 ≤ d ∧ d ≤ 1000
    · have h0' := h0
      unfold loadsOk at h0'
      have pb := prodBound h0'.2 h1
      rw [wrapId (n := 2 * b) (by omega) (by omega), wrapId (n := 2 * b * d) (by omega) (by omega), wrapId (n := a - 2 * b * d) (by omega) (by omega)]
      simp only [h0, h1, decide_true, if_true, and_self]
      congr 1
      split <;> split <;> omega
    · simp [h0, h1]
  · simp [h0]

theorem FnExactSpareAt : laws_FnExactSpareAt.Pure := by
  intro a b d _ _ _
  simp only [laws_FnExactSpareAt.f, spec_SpareAt_eq, impl_SpareAt_eq, Option.bind_some]
  simp
end Go.Proofs.Ytooneaiebkdbpab.Pure
