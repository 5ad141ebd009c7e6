/- For every Tide and every hour, the program's NextDry and the reference's give the same answer: the law's Go function answers true. No condition beyond the kinds of the numbers. -/
import Derived.Test.YtkdclkbgejbgjaaPFnExactNextDryx1
import Derived.Test.YtkdclkbgejbgjaaAid
namespace Go.Proofs.Ytkdclkbgejbgjaa.Pure
open Go.RowKit Go.Proofs.Ytkdclkbgejbgjaa.PFnExactNextDry Go.Proofs.Ytkdclkbgejbgjaa.Aid Go.Proofs.YtkdclkbgejbgjaaW.PrintWords Go.Proofs.YtkdclkbgejbgjaaW.PrintLast Go.Proofs.YtkdclkbgejbgjaaW.PrintMore
set_option linter.unusedVariables false
set_option linter.unusedSimpArgs false
theorem l1In_eq (a b c : Int) : spec_l1In.f a b c = some (decide (b ≤ a ∧ a ≤ c)) := by
  unfold spec_l1In.f
  by_cases h : b ≤ a
  · rw [if_pos h]
    simp [h]
  · rw [if_neg h]
    simp [h]
theorem inRange_eq (a b c : Int) : impl_InRange.f a b c = some (decide (b ≤ a ∧ a ≤ c)) := by
  unfold impl_InRange.f
  by_cases h : b ≤ a
  · rw [if_pos h]
    simp [h]
  · rw [if_neg h]
    simp [h]

def tideOk (a b : Int) : Prop := (0 ≤ a ∧ a ≤ 11) ∧ (0 ≤ b ∧ b ≤ 5)
instance (a b : Int) : Decidable (tideOk a b) := inferInstanceAs (Decidable (_ ∧ _))
theorem spec_IsTide_eq (a b : Int) : spec_IsTide.f a b = some (decide (tideOk a b)) := by
  unfold spec_IsTide.f tideOk
  simp only [l1In_eq, Option.bind_some]
  by_cases h0 : 0 ≤ a ∧ a ≤ 11 <;> simp [h0]
theorem impl_IsTide_eq (a b : Int) : impl_IsTide.f a b = some (decide (tideOk a b)) := by
  unfold impl_IsTide.f tideOk
  simp only [inRange_eq, Option.bind_some]
  by_cases h0 : 0 ≤ a ∧ a ≤ 11 <;> simp [h0]

theorem tmod12 (x : Int) : Int.tmod (wrap64 (Int.tmod x 12 + 12)) 12 = x % 12 := by
  have key : Int.tmod x 12 = x % 12 ∨ Int.tmod x 12 = x % 12 - 12 := by
    by_cases h : 0 ≤ x
    · exact .inl (Int.tmod_eq_emod_of_nonneg h)
    · have e := Int.tmod_eq_emod (a := x) (b := 12)
      rw [e]
      split
      · exact .inl (by omega)
      · exact .inr (by simp)
  have b0 : 0 ≤ x % 12 := Int.emod_nonneg x (by omega)
  have b1 : x % 12 < 12 := Int.emod_lt_of_pos x (by omega)
  rcases key with e | e
  · rw [e, wrapId (by omega) (by omega), Int.tmod_eq_emod_of_nonneg (by omega)]
    omega
  · rw [e, wrapId (by omega) (by omega), Int.tmod_eq_emod_of_nonneg (by omega)]
    omega

theorem impl_Mod12 (x : Int) : impl_Mod.f x 12 = some (x % 12) := by
  unfold impl_Mod.f
  rw [inRange_eq, Option.bind_some, if_pos (by decide), if_neg (by decide), tmod12]

/-- Is the sand dry at an hour, as the tide alone tells it? -/
def dryAt (a b h : Int) : Bool := decide (2 * b < (h - a + b) % 12)
theorem impl_dry_eq {a b h : Int} (ht : tideOk a b) (h0 : -10 ≤ h) (h1 : h ≤ 200000) : impl_Tide_dry.f a b h = some (dryAt a b h) := by
  unfold tideOk at ht
  unfold impl_Tide_dry.f dryAt
  rw [wrapId (n := h - a) (by omega) (by omega), wrapId (n := h - a + b) (by omega) (by omega), wrapId (n := 2 * b) (by omega) (by omega), impl_Mod12]
  simp

/-- What the next dry hour is. -/
def NextIs (a b h n : Int) : Prop := h ≤ n ∧ n ≤ h + 11 ∧ dryAt a b n = true ∧ ∀ q, h ≤ q → q < n → dryAt a b q = false
theorem NextIs.one {a b h n m : Int} (x : NextIs a b h n) (y : NextIs a b h m) : n = m := by
  obtain ⟨x0, _, x1, x2⟩ := x
  obtain ⟨y0, _, y1, y2⟩ := y
  by_cases c : n < m
  · rw [y2 n x0 c] at x1
    cases x1
  · by_cases c' : m < n
    · rw [x2 m y0 c'] at y1
      cases y1
    · omega
/-- A loop that goes on hour by hour till it is dry. -/
theorem nextLoop {a b : Int} (ht : tideOk a b) (l : Nat → Int → Option Int) (hl : ∀ k h, 0 ≤ h → h ≤ 150000 → l (k + 1) h = if dryAt a b h = true then some h else l k (h + 1)) :
    ∀ (d : Nat) (h : Int), 0 ≤ h → h + d ≤ 150000 → 11 - (h - a + b) % 12 ≤ d →
    ∃ n, Ev (fun k => l k h) n ∧ h ≤ n ∧ n ≤ h + d ∧ dryAt a b n = true ∧ ∀ q, h ≤ q → q < n → dryAt a b q = false := by
  intro d
  induction d with
  | zero =>
    intro h h0 h1 hm
    have hd : dryAt a b h = true := by
      unfold tideOk at ht
      unfold dryAt
      simp only [decide_eq_true_eq]
      omega
    refine ⟨h, Ev.step (f := fun _ => some h) (fun k => ?_) (Ev.now h), by omega, by omega, hd, fun q _ _ => by omega⟩
    rw [hl k h h0 (by omega), if_pos hd]
  | succ d ih =>
    intro h h0 h1 hm
    by_cases hd : dryAt a b h = true
    · refine ⟨h, Ev.step (f := fun _ => some h) (fun k => ?_) (Ev.now h), by omega, by omega, hd, fun q _ _ => by omega⟩
      rw [hl k h h0 (by omega), if_pos hd]
    · have hm' : 11 - (h + 1 - a + b) % 12 ≤ d := by
        unfold tideOk at ht
        unfold dryAt at hd
        simp only [decide_eq_true_eq] at hd
        omega
      obtain ⟨n, hn, g0, g1, g2, g3⟩ := ih (h + 1) (by omega) (by omega) hm'
      refine ⟨n, Ev.step (fun k => ?_) hn, by omega, by omega, g2, fun q q0 q1 => ?_⟩
      · rw [hl k h h0 (by omega), if_neg hd]
      · by_cases e : q = h
        · subst e
          simpa using hd
        · exact g3 q (by omega) q1
/-- What NextDry answers. -/
theorem impl_NextDry_ev (a b h : Int) : ∃ n, Ev (fun k => impl_NextDry.f k a b h) n ∧
    ((¬ (tideOk a b ∧ 0 ≤ h ∧ h ≤ 100000) ∧ n = -1) ∨ ((tideOk a b ∧ 0 ≤ h ∧ h ≤ 100000) ∧ NextIs a b h n)) := by
  by_cases c : tideOk a b ∧ 0 ≤ h ∧ h ≤ 100000
  · have hb : 11 - (h - a + b) % 12 ≤ (11 : Nat) := by omega
    obtain ⟨n, hn, g0, g1, g2, g3⟩ := nextLoop c.1 (fun k h => impl_NextDry.l0 k h a b) (fun k h h0 h1 => by
      simp only [impl_NextDry.l0, impl_dry_eq c.1 (by omega : -10 ≤ h) (by omega), Option.bind_some]
      rw [wrapId (n := h + 1) (by omega) (by omega)]) 11 h c.2.1 (by omega) hb
    refine ⟨n, ?_, .inr ⟨c, g0, by omega, g2, g3⟩⟩
    refine Ev.congr (f := fun k => impl_NextDry.j0 k h false a b) (fun k => ?_) (Ev.step (fun k => ?_) hn)
    · simp only [impl_NextDry.f, impl_IsTide_eq, inRange_eq, Option.bind_some, c, and_self, decide_true, if_true, Bool.not_true]
    · simp [impl_NextDry.j0]
  · refine ⟨-1, ?_, .inl ⟨c, rfl⟩⟩
    refine Ev.congr (f := fun k => impl_NextDry.j0 k h true a b) (fun k => ?_) (Ev.step (f := fun _ => some (-1)) (fun k => ?_) (Ev.now _))
    · simp only [impl_NextDry.f, impl_IsTide_eq, inRange_eq, Option.bind_some]
      by_cases ht : tideOk a b
      · have hh : ¬ (0 ≤ h ∧ h ≤ 100000) := fun hh => c ⟨ht, hh⟩
        simp [ht, hh]
      · simp [ht]
    · simp [impl_NextDry.j0]

theorem spec_Mod12 (x : Int) : spec_Mod.f x 12 = some (x % 12) := by
  unfold spec_Mod.f
  rw [l1In_eq, Option.bind_some, if_pos (by decide), if_neg (by decide), tmod12]

theorem spec_NextDry_ev (a b h : Int) : ∃ n, Ev (fun k => spec_NextDry.f k a b h) n ∧
    ((¬ (tideOk a b ∧ 0 ≤ h ∧ h ≤ 100000) ∧ n = -1) ∨ ((tideOk a b ∧ 0 ≤ h ∧ h ≤ 100000) ∧ NextIs a b h n)) := by
  by_cases c : tideOk a b ∧ 0 ≤ h ∧ h ≤ 100000
  · have hb : 11 - (h - a + b) % 12 ≤ (11 : Nat) := by omega
    obtain ⟨n, hn, g0, g1, g2, g3⟩ := nextLoop c.1 (fun k h => spec_NextDry.l0 k h a b) (fun k h h0 h1 => by
      have ht := c.1
      unfold tideOk at ht
      simp only [spec_NextDry.l0, spec_Mod12, Option.bind_some]
      rw [wrapId (n := h - a) (by omega) (by omega), wrapId (n := h - a + b) (by omega) (by omega), wrapId (n := 2 * b) (by omega) (by omega), wrapId (n := h + 1) (by omega) (by omega)]
      unfold dryAt
      by_cases q : (h - a + b) % 12 ≤ 2 * b
      · rw [if_pos q, if_neg (by simp only [decide_eq_true_eq]; omega)]
      · rw [if_neg q, if_pos (by simp only [decide_eq_true_eq]; omega)]) 11 h c.2.1 (by omega) hb
    refine ⟨n, ?_, .inr ⟨c, g0, by omega, g2, g3⟩⟩
    refine Ev.congr (f := fun k => spec_NextDry.j0 k h false a b) (fun k => ?_) (Ev.step (fun k => ?_) hn)
    · simp only [spec_NextDry.f, spec_IsTide_eq, l1In_eq, Option.bind_some, c, and_self, decide_true, if_true, Bool.not_true]
    · simp [spec_NextDry.j0]
  · refine ⟨-1, ?_, .inl ⟨c, rfl⟩⟩
    refine Ev.congr (f := fun k => spec_NextDry.j0 k h true a b) (fun k => ?_) (Ev.step (f := fun _ => some (-1)) (fun k => ?_) (Ev.now _))
    · simp only [spec_NextDry.f, spec_IsTide_eq, l1In_eq, Option.bind_some]
      by_cases ht : tideOk a b
      · have hh : ¬ (0 ≤ h ∧ h ≤ 100000) := fun hh => c ⟨ht, hh⟩
        simp [ht, hh]
      · simp [ht]
    · simp [spec_NextDry.j0]
def FnExactNextDry.Claim : Prop := ∀ (a0_0 : Int) (a0_1 : Int) (a1 : Int), (Lit.int .i64 a0_0).wf = true → (Lit.int .i64 a0_1).wf = true → (Lit.int .i64 a1).wf = true → ∃ k, laws_FnExactNextDry.f k a0_0 a0_1 a1 = some true
theorem FnExactNextDry : FnExactNextDry.Claim := by
  intro a b h _ _ _
  obtain ⟨n, hn, pn⟩ := impl_NextDry_ev a b h
  obtain ⟨m, hm, pm⟩ := spec_NextDry_ev a b h
  have e : n = m := by
    rcases pn with ⟨c, rfl⟩ | ⟨c, pn⟩
    · rcases pm with ⟨_, rfl⟩ | ⟨c', _⟩
      · rfl
      · exact absurd c' c
    · rcases pm with ⟨c', _⟩ | ⟨_, pm⟩
      · exact absurd c c'
      · exact NextIs.one pn pm
  subst e
  apply Ev.rounds
  simp only [laws_FnExactNextDry.f, laws_toTide.f, Option.bind_some]
  refine Ev.bind hm (Ev.bind hn ?_)
  simp only [if_true]
  exact Ev.now _
end Go.Proofs.Ytkdclkbgejbgjaa.Pure
