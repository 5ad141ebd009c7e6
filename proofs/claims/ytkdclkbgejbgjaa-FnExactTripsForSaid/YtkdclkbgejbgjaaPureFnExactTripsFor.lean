/- For every load, need, number of days and amount of food, the program's TripsFor and the reference's give the same answer: the law's Go function answers true. No condition beyond the kinds of the numbers. -/
import Derived.Test.YtkdclkbgejbgjaaPFnExactTripsForx1
import Derived.Test.YtkdclkbgejbgjaaAid
namespace Go.Proofs.Ytkdclkbgejbgjaa.Pure
open Go.RowKit Go.Proofs.Ytkdclkbgejbgjaa.PFnExactTripsFor Go.Proofs.Ytkdclkbgejbgjaa.Aid Go.Proofs.YtkdclkbgejbgjaaW.PrintWords Go.Proofs.YtkdclkbgejbgjaaW.PrintLast Go.Proofs.YtkdclkbgejbgjaaW.PrintMore
set_option linter.unusedVariables false
set_option linter.unusedSimpArgs false
theorem l1In_eq (a b c : Int) : spec_l1In.f a b c = some (decide (b ≤ a ∧ a ≤ c)) := by
  unfold spec_l1In.f
  by_cases h : b ≤ a
  · rw [if_pos h]
    simp [h]
  · rw [if_neg h]
    simp [h]
theorem inRange_eq (a b c : Int) : impl_InRange.f a b c = some (decide (b ≤ a ∧ a ≤ c)) := by
  unfold impl_InRange.f
  by_cases h : b ≤ a
  · rw [if_pos h]
    simp [h]
  · rw [if_neg h]
    simp [h]

def loadsOk (a b : Int) : Prop := (0 ≤ a ∧ a ≤ 10000) ∧ (1 ≤ b ∧ b ≤ 100)
instance (a b : Int) : Decidable (loadsOk a b) := inferInstanceAs (Decidable (_ ∧ _))
theorem impl_areLoads_eq (a b : Int) : impl_areLoads.f a b = some (decide (loadsOk a b)) := by
  unfold impl_areLoads.f loadsOk
  simp only [inRange_eq, Option.bind_some]
  by_cases h0 : 0 ≤ a ∧ a ≤ 10000 <;> simp [h0]
/-- What one can leave. -/
def spare (a b d : Int) : Int := if loadsOk a b ∧ (0 ≤ d ∧ d ≤ 1000) then (if a - 2 * b * d < -1 then -1 else a - 2 * b * d) else -1
theorem prodBound {b d : Int} (hb : 1 ≤ b ∧ b ≤ 100) (hd : 0 ≤ d ∧ d ≤ 1000) : 0 ≤ 2 * b * d ∧ 2 * b * d ≤ 200000 := by
  have h0 : 0 ≤ b * d := Int.mul_nonneg (by omega) (by omega)
  have h1 : b * d ≤ 100 * 1000 := Int.mul_le_mul (by omega) (by omega) (by omega) (by omega)
  have e : 2 * b * d = 2 * (b * d) := Int.mul_assoc 2 b d
  omega
theorem impl_SpareAt_eq (a b d : Int) : impl_SpareAt.f a b d = some (spare a b d) := by
  unfold impl_SpareAt.f spare
  simp only [impl_areLoads_eq, inRange_eq, Option.bind_some]
  by_cases h0 : loadsOk a b
  · by_cases h1 : 0 ≤ d ∧ d ≤ 1000
    · have h0' := h0
      unfold loadsOk at h0'
      have pb := prodBound h0'.2 h1
      rw [wrapId (n := 2 * b) (by omega) (by omega), wrapId (n := 2 * b * d) (by omega) (by omega), wrapId (n := a - 2 * b * d) (by omega) (by omega)]
      simp [h0, h1, mx]
    · simp [h0, h1]
  · simp [h0]

/-- How many trips are needed. -/
def trips (a b d f : Int) : Int := if spare a b d < 0 ∨ ¬ (0 ≤ f ∧ f ≤ 10000) ∨ (spare a b d = 0 ∧ f ≠ 0) then -1 else if f = 0 then 0 else (f + spare a b d - 1) / spare a b d
theorem spare_le (a b d : Int) : -1 ≤ spare a b d ∧ spare a b d ≤ 10000 := by
  unfold spare
  split
  · rename_i h
    obtain ⟨h0, h1⟩ := h
    unfold loadsOk at h0
    have pb := prodBound h0.2 h1
    split <;> omega
  · omega
theorem ceilBound {f s : Int} (hf : 0 ≤ f ∧ f ≤ 10000) (hs : 1 ≤ s ∧ s ≤ 10000) : 0 ≤ (f + s - 1) / s ∧ (f + s - 1) / s ≤ 20000 := by
  have h0 : 0 ≤ (f + s - 1) / s := Int.ediv_nonneg (by omega) (by omega)
  have h1 : (f + s - 1) / s ≤ f + s - 1 := Int.ediv_le_self _ (by omega)
  omega
theorem impl_TripsFor_eq (k : Nat) (a b d f : Int) : impl_TripsFor.f (k + 1) a b d f = some (trips a b d f) := by
  have hs := spare_le a b d
  unfold impl_TripsFor.f trips
  simp only [impl_SpareAt_eq, inRange_eq, Option.bind_some, impl_TripsFor.j0]
  by_cases c0 : spare a b d < 0
  · simp [c0]
  · by_cases c1 : 0 ≤ f ∧ f ≤ 10000
    · by_cases c2 : spare a b d = 0
      · by_cases c3 : f = 0
        · simp [c2, c3]
        · simp [c2, c3]
      · by_cases c3 : f = 0
        · simp [c0, c2, c3]
        · have cb := ceilBound c1 (s := spare a b d) (by omega)
          rw [wrapId (n := f + spare a b d) (by omega) (by omega), wrapId (n := f + spare a b d - 1) (by omega) (by omega), Int.tdiv_eq_ediv_of_nonneg (by omega), wrapId (n := (f + spare a b d - 1) / spare a b d) (by omega) (by omega)]
          simp [c0, c1, c2, c3]
    · simp [c0, c1]

theorem spec_Max_eq (a b : Int) : spec_Max.f a b = some (if b > a then b else a) := by
  unfold spec_Max.f
  split <;> rfl
theorem spec_l13Ok_eq (a b : Int) : spec_l13Ok.f a b = some (decide (loadsOk a b)) := by
  unfold spec_l13Ok.f loadsOk
  simp only [l1In_eq, Option.bind_some]
  by_cases h0 : 0 ≤ a ∧ a ≤ 10000 <;> simp [h0]
theorem spec_SpareAt_eq (a b d : Int) : spec_SpareAt.f a b d = some (spare a b d) := by
  unfold spec_SpareAt.f spare
  simp only [spec_l13Ok_eq, l1In_eq, spec_Max_eq, Option.bind_some]
  by_cases h0 : loadsOk a b
  · by_cases h1 : 0 ≤ d ∧ d ≤ 1000
    · have h0' := h0
      unfold loadsOk at h0'
      have pb := prodBound h0'.2 h1
      rw [wrapId (n := 2 * b) (by omega) (by omega), wrapId (n := 2 * b * d) (by omega) (by omega), wrapId (n := a - 2 * b * d) (by omega) (by omega)]
      simp only [h0, h1, decide_true, if_true, and_self]
      congr 1
      split <;> split <;> omega
    · simp [h0, h1]
  · simp [h0]

theorem spec_CeilDiv_eq {f s : Int} (hf : 0 ≤ f ∧ f ≤ 10000) (hs : 1 ≤ s ∧ s ≤ 10000) : spec_CeilDiv.f f s = some ((f + s - 1) / s) := by
  have cb := ceilBound hf hs
  unfold spec_CeilDiv.f
  simp only [l1In_eq, Option.bind_some]
  have g0 : 0 ≤ f ∧ f ≤ 1000000000000 := by omega
  have g1 : 1 ≤ s ∧ s ≤ 1000000000000 := by omega
  have g2 : ¬ s = 0 := by omega
  rw [wrapId (n := f + s) (by omega) (by omega), wrapId (n := f + s - 1) (by omega) (by omega), Int.tdiv_eq_ediv_of_nonneg (by omega), wrapId (n := (f + s - 1) / s) (by omega) (by omega)]
  simp [g0, g1, g2]
theorem spec_TripsFor_eq (k : Nat) (a b d f : Int) : spec_TripsFor.f (k + 1) a b d f = some (trips a b d f) := by
  have hs := spare_le a b d
  unfold spec_TripsFor.f trips
  simp only [spec_SpareAt_eq, l1In_eq, Option.bind_some, spec_TripsFor.j0]
  by_cases c0 : spare a b d < 0
  · simp [c0]
  · by_cases c1 : 0 ≤ f ∧ f ≤ 10000
    · by_cases c2 : spare a b d = 0
      · by_cases c3 : f = 0
        · simp [c2, c3]
        · simp [c2, c3]
      · by_cases c3 : f = 0
        · simp [c0, c2, c3]
        · rw [spec_CeilDiv_eq c1 (by omega)]
          simp [c0, c1, c2, c3]
    · by_cases c2 : spare a b d = 0
      · by_cases c3 : f = 0
        · omega
        · simp [c2, c3]
      · simp [c0, c1, c2]
theorem FnExactTripsFor : laws_FnExactTripsFor.Pure := by
  intro a b d f _ _ _ _
  refine ⟨1, ?_⟩
  simp only [laws_FnExactTripsFor.f, spec_TripsFor_eq 0, impl_TripsFor_eq 0, Option.bind_some]
  simp
end Go.Proofs.Ytkdclkbgejbgjaa.Pure
