/- For every Tide and every hour, the program's IsDry and the reference's give the same answer: the law's Go function answers true. No condition beyond the kinds of the numbers. -/
import Derived.Test.YtooneaiebkdbpabPFnExactIsDryx2
import Derived.Test.YtooneaiebkdbpabAid
namespace Go.Proofs.Ytooneaiebkdbpab.Pure
open Go.RowKit Go.Proofs.Ytooneaiebkdbpab.PFnExactIsDry Go.Proofs.Ytooneaiebkdbpab.Aid Go.Proofs.YtooneaiebkdbpabW.PrintWords Go.Proofs.YtooneaiebkdbpabW.PrintLast Go.Proofs.YtooneaiebkdbpabW.PrintMore
set_option linter.unusedVariables false
set_option linter.unusedSimpArgs false
theorem l1In_eq (a b c : Int) : spec_l1In.f a b c = some (decide (b ≤ a ∧ a ≤ c)) := by
  unfold spec_l1In.f
  by_cases h : b ≤ a
  · rw [if_pos h]
    simp [h]
  · rw [if_neg h]
    simp [h]
theorem inRange_eq (a b c : Int) : impl_InRange.f a b c = some (decide (b ≤ a ∧ a ≤ c)) := by
  unfold impl_InRange.f
  by_cases h : b ≤ a
  · rw [if_pos h]
    simp [h]
  · rw [if_neg h]
    simp [h]

def tideOk (a b : Int) : Prop := (0 ≤ a ∧ a ≤ 11) ∧ (0 ≤ b ∧ b ≤ 5)
instance (a b : Int) : Decidable (tideOk a b) := inferInstanceAs (Decidable (_ ∧ _))
theorem spec_IsTide_eq (a b : Int) : spec_IsTide.f a b = some (decide (tideOk a b)) := by
  unfold spec_IsTide.f tideOk
  simp only [l1In_eq, Option.bind_some]
  by_cases h0 : 0 ≤ a ∧ a ≤ 11 <;> simp [h0]
theorem impl_IsTide_eq (a b : Int) : impl_IsTide.f a b = some (decide (tideOk a b)) := by
  unfold impl_IsTide.f tideOk
  simp only [inRange_eq, Option.bind_some]
  by_cases h0 : 0 ≤ a ∧ a ≤ 11 <;> simp [h0]

theorem tmod12 (x : Int) : Int.tmod (wrap64 (Int.tmod x 12 + 12)) 12 = x % 12 := by
  have key : Int.tmod x 12 = x % 12 ∨ Int.tmod x 12 = x % 12 - 12 := by
    by_cases h : 0 ≤ x
    · exact .inl (Int.tmod_eq_emod_of_nonneg h)
    · have e := Int.tmod_eq_emod (a := x) (b := 12)
      rw [e]
      split
      · exact .inl (by omega)
      · exact .inr (by simp)
  have b0 : 0 ≤ x % 12 := Int.emod_nonneg x (by omega)
  have b1 : x % 12 < 12 := Int.emod_lt_of_pos x (by omega)
  rcases key with e | e
  · rw [e, wrapId (by omega) (by omega), Int.tmod_eq_emod_of_nonneg (by omega)]
    omega
  · rw [e, wrapId (by omega) (by omega), Int.tmod_eq_emod_of_nonneg (by omega)]
    omega

theorem impl_Mod12 (x : Int) : impl_Mod.f x 12 = some (x % 12) := by
  unfold impl_Mod.f
  rw [inRange_eq, Option.bind_some, if_pos (by decide), if_neg (by decide), tmod12]

/-- Is the sand dry at an hour, as the tide alone tells it? -/
def dryAt (a b h : Int) : Bool := decide (2 * b < (h - a + b) % 12)
theorem impl_dry_eq {a b h : Int} (ht : tideOk a b) (h0 : -10 ≤ h) (h1 : h ≤ 200000) : impl_Tide_dry.f a b h = some (dryAt a b h) := by
  unfold tideOk at ht
  unfold impl_Tide_dry.f dryAt
  rw [wrapId (n := h - a) (by omega) (by omega), wrapId (n := h - a + b) (by omega) (by omega), wrapId (n := 2 * b) (by omega) (by omega), impl_Mod12]
  simp

def isDryB (a b h : Int) : Bool := decide (tideOk a b) && (decide (0 ≤ h ∧ h ≤ 100000) && dryAt a b h)
theorem impl_IsDry_eq (a b h : Int) : impl_IsDry.f a b h = some (isDryB a b h) := by
  unfold impl_IsDry.f isDryB
  simp only [impl_IsTide_eq, inRange_eq, Option.bind_some]
  by_cases ht : tideOk a b
  · by_cases hh : 0 ≤ h ∧ h ≤ 100000
    · rw [impl_dry_eq ht (by omega) (by omega)]
      simp [ht, hh]
    · simp [ht, hh]
  · simp [ht]

theorem spec_Mod12 (x : Int) : spec_Mod.f x 12 = some (x % 12) := by
  unfold spec_Mod.f
  rw [l1In_eq, Option.bind_some, if_pos (by decide), if_neg (by decide), tmod12]

theorem spec_IsDry_eq (a b h : Int) : spec_IsDry.f a b h = some (isDryB a b h) := by
  unfold spec_IsDry.f isDryB dryAt
  simp only [spec_IsTide_eq, l1In_eq, Option.bind_some, spec_Mod12]
  by_cases ht : tideOk a b
  · by_cases hh : 0 ≤ h ∧ h ≤ 100000
    · have ht' := ht
      unfold tideOk at ht'
      rw [wrapId (n := h - a) (by omega) (by omega), wrapId (n := h - a + b) (by omega) (by omega), wrapId (n := 2 * b) (by omega) (by omega)]
      simp [ht, hh]
    · simp [ht, hh]
  · simp [ht]

def FnExactIsDry.Claim : Prop := ∀ (a0_0 : Int) (a0_1 : Int) (a1 : Int), (Lit.int .i64 a0_0).wf = true → (Lit.int .i64 a0_1).wf = true → (Lit.int .i64 a1).wf = true → laws_FnExactIsDry.f a0_0 a0_1 a1 = some true
theorem FnExactIsDry : FnExactIsDry.Claim := by
  intro a b h _ _ _
  simp only [laws_FnExactIsDry.f, laws_toTide.f, spec_IsDry_eq, impl_IsDry_eq, Option.bind_some]
  simp
end Go.Proofs.Ytooneaiebkdbpab.Pure
