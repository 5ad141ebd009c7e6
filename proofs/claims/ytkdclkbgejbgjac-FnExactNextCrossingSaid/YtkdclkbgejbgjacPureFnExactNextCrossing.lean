/- For every Tide, every hour and every length, the program's NextCrossing and the reference's give the same answer: the law's Go function answers true. No condition beyond the kinds of the numbers. -/
import Derived.Test.YtkdclkbgejbgjacPFnExactNextCrossingx2
import Derived.Test.YtkdclkbgejbgjacAid
namespace Go.Proofs.Ytkdclkbgejbgjac.Pure
open Go.RowKit Go.Proofs.Ytkdclkbgejbgjac.PFnExactNextCrossing Go.Proofs.Ytkdclkbgejbgjac.Aid Go.Proofs.YtkdclkbgejbgjacW.PrintWords Go.Proofs.YtkdclkbgejbgjacW.PrintLast Go.Proofs.YtkdclkbgejbgjacW.PrintMore
set_option linter.unusedVariables false
set_option linter.unusedSimpArgs false
theorem l1In_eq (a b c : Int) : spec_l1In.f a b c = some (decide (b ≤ a ∧ a ≤ c)) := by
  unfold spec_l1In.f
  by_cases h : b ≤ a
  · rw [if_pos h]
    simp [h]
  · rw [if_neg h]
    simp [h]
theorem inRange_eq (a b c : Int) : impl_InRange.f a b c = some (decide (b ≤ a ∧ a ≤ c)) := by
  unfold impl_InRange.f
  by_cases h : b ≤ a
  · rw [if_pos h]
    simp [h]
  · rw [if_neg h]
    simp [h]

def tideOk (a b : Int) : Prop := (0 ≤ a ∧ a ≤ 11) ∧ (0 ≤ b ∧ b ≤ 5)
instance (a b : Int) : Decidable (tideOk a b) := inferInstanceAs (Decidable (_ ∧ _))
theorem spec_IsTide_eq (a b : Int) : spec_IsTide.f a b = some (decide (tideOk a b)) := by
  unfold spec_IsTide.f tideOk
  simp only [l1In_eq, Option.bind_some]
  by_cases h0 : 0 ≤ a ∧ a ≤ 11 <;> simp [h0]
theorem impl_IsTide_eq (a b : Int) : impl_IsTide.f a b = some (decide (tideOk a b)) := by
  unfold impl_IsTide.f tideOk
  simp only [inRange_eq, Option.bind_some]
  by_cases h0 : 0 ≤ a ∧ a ≤ 11 <;> simp [h0]

theorem tmod12 (x : Int) : Int.tmod (wrap64 (Int.tmod x 12 + 12)) 12 = x % 12 := by
  have key : Int.tmod x 12 = x % 12 ∨ Int.tmod x 12 = x % 12 - 12 := by
    by_cases h : 0 ≤ x
    · exact .inl (Int.tmod_eq_emod_of_nonneg h)
    · have e := Int.tmod_eq_emod (a := x) (b := 12)
      rw [e]
      split
      · exact .inl (by omega)
      · exact .inr (by simp)
  have b0 : 0 ≤ x % 12 := Int.emod_nonneg x (by omega)
  have b1 : x % 12 < 12 := Int.emod_lt_of_pos x (by omega)
  rcases key with e | e
  · rw [e, wrapId (by omega) (by omega), Int.tmod_eq_emod_of_nonneg (by omega)]
    omega
  · rw [e, wrapId (by omega) (by omega), Int.tmod_eq_emod_of_nonneg (by omega)]
    omega

theorem impl_Mod12 (x : Int) : impl_Mod.f x 12 = some (x % 12) := by
  unfold impl_Mod.f
  rw [inRange_eq, Option.bind_some, if_pos (by decide), if_neg (by decide), tmod12]

/-- Is the sand dry at an hour, as the tide alone tells it? -/
def dryAt (a b h : Int) : Bool := decide (2 * b < (h - a + b) % 12)
theorem impl_dry_eq {a b h : Int} (ht : tideOk a b) (h0 : -10 ≤ h) (h1 : h ≤ 200000) : impl_Tide_dry.f a b h = some (dryAt a b h) := by
  unfold tideOk at ht
  unfold impl_Tide_dry.f dryAt
  rw [wrapId (n := h - a) (by omega) (by omega), wrapId (n := h - a + b) (by omega) (by omega), wrapId (n := 2 * b) (by omega) (by omega), impl_Mod12]
  simp

def isDryB (a b h : Int) : Bool := decide (tideOk a b) && (decide (0 ≤ h ∧ h ≤ 100000) && dryAt a b h)
theorem impl_IsDry_eq (a b h : Int) : impl_IsDry.f a b h = some (isDryB a b h) := by
  unfold impl_IsDry.f isDryB
  simp only [impl_IsTide_eq, inRange_eq, Option.bind_some]
  by_cases ht : tideOk a b
  · by_cases hh : 0 ≤ h ∧ h ≤ 100000
    · rw [impl_dry_eq ht (by omega) (by omega)]
      simp [ht, hh]
    · simp [ht, hh]
  · simp [ht]

/-- Is each of n hours from h on dry? -/
def dryAll (a b h : Int) : Nat → Bool
  | 0 => true
  | n + 1 => isDryB a b h && dryAll a b (h + 1) n
theorem dryAll_first {a b h : Int} {n : Nat} (e : dryAll a b h (n + 1) = true) : isDryB a b h = true := by
  simp only [dryAll, Bool.and_eq_true] at e
  exact e.1
theorem dryAll_last {a b : Int} : ∀ (n : Nat) (h : Int), dryAll a b h (n + 1) = true → isDryB a b (h + n) = true
  | 0, h, e => by simpa using dryAll_first e
  | n + 1, h, e => by
    have e' : dryAll a b (h + 1) (n + 1) = true := by
      simp only [dryAll, Bool.and_eq_true] at e ⊢
      exact e.2
    have := dryAll_last n (h + 1) e'
    rw [show h + ((n + 1 : Nat) : Int) = h + 1 + (n : Int) by omega]
    exact this
def crossB (a b h long : Int) : Bool := decide ((0 ≤ long ∧ long ≤ 100) ∧ (0 ≤ h ∧ h ≤ 100000)) && dryAll a b h (long.toNat + 1)
theorem crossLoop {a b h0 long : Int} (l : Nat → Int → Option Bool) (hb : 0 ≤ long ∧ long ≤ 100) (hh : 0 ≤ h0 ∧ h0 ≤ 100000)
    (hl : ∀ k h, l (k + 1) h = if h ≤ wrap64 (h0 + long) then (if isDryB a b h = true then l k (wrap64 (h + 1)) else some false) else some true) :
    ∀ (n : Nat) (h : Int), 0 ≤ h → h + n = h0 + long + 1 → Ev (fun k => l k h) (dryAll a b h n) := by
  intro n
  have e0 : wrap64 (h0 + long) = h0 + long := wrapId (by omega) (by omega)
  induction n with
  | zero =>
    intro h hp hs
    refine Ev.step (f := fun _ => some true) (fun k => ?_) (Ev.now _)
    rw [hl, e0, if_neg (by omega)]
  | succ n ih =>
    intro h hp hs
    by_cases d : isDryB a b h = true
    · have := ih (h + 1) (by omega) (by omega)
      rw [show dryAll a b h (n + 1) = dryAll a b (h + 1) n by simp [dryAll, d]]
      refine Ev.step (fun k => ?_) this
      rw [hl, e0, if_pos (by omega), if_pos d, wrapId (n := h + 1) (by omega) (by omega)]
    · rw [show dryAll a b h (n + 1) = false by simp [dryAll, d]]
      refine Ev.step (f := fun _ => some false) (fun k => ?_) (Ev.now _)
      rw [hl, e0, if_pos (by omega), if_neg d]
theorem impl_CanCross_ev (a b h long : Int) : Ev (fun k => impl_CanCross.f k a b h long) (crossB a b h long) := by
  unfold crossB
  by_cases c : (0 ≤ long ∧ long ≤ 100) ∧ (0 ≤ h ∧ h ≤ 100000)
  · have := crossLoop (a := a) (b := b) (fun k x => impl_CanCross.l0 k h long x a b) c.1 c.2 (fun k x => by simp only [impl_CanCross.l0, impl_IsDry_eq, Option.bind_some]) (long.toNat + 1) h c.2.1 (by omega)
    simp only [c, and_self, decide_true, Bool.true_and]
    refine Ev.congr (f := fun k => impl_CanCross.j0 k h long false a b) (fun k => ?_) (Ev.step (fun k => ?_) this)
    · simp only [impl_CanCross.f, inRange_eq, Option.bind_some, c, and_self, decide_true, if_true, Bool.not_true]
    · simp [impl_CanCross.j0]
  · simp only [c, decide_false, Bool.false_and]
    refine Ev.congr (f := fun k => impl_CanCross.j0 k h long true a b) (fun k => ?_) (Ev.step (f := fun _ => some false) (fun k => ?_) (Ev.now _))
    · simp only [impl_CanCross.f, inRange_eq, Option.bind_some]
      by_cases c0 : 0 ≤ long ∧ long ≤ 100
      · have c1 : ¬ (0 ≤ h ∧ h ≤ 100000) := fun x => c ⟨c0, x⟩
        simp [c0, c1]
      · simp [c0]
    · simp [impl_CanCross.j0]

/-- The first of n hours from h on at which one can cross; -1 if there is none. -/
def firstCross (a b long h : Int) : Nat → Int
  | 0 => -1
  | n + 1 => if crossB a b h long = true then h else firstCross a b long (h + 1) n
theorem firstCross_is {a b long : Int} : ∀ (n : Nat) (h : Int), firstCross a b long h n = -1 ∨ (h ≤ firstCross a b long h n ∧ crossB a b (firstCross a b long h n) long = true)
  | 0, h => .inl rfl
  | n + 1, h => by
    simp only [firstCross]
    split
    · rename_i c
      exact .inr ⟨Int.le_refl _, c⟩
    · rcases firstCross_is n (h + 1) with e | ⟨e0, e1⟩
      · exact .inl e
      · exact .inr ⟨by omega, e1⟩
def nextCross (a b h long : Int) : Int := if 0 ≤ h ∧ h ≤ 90000 then firstCross a b long h 13 else -1
theorem nextCrossLoop {a b h0 long : Int} (l : Nat → Int → Option Int) (g : Nat → Int → Option Bool) (hg : ∀ h, Ev (fun k => g k h) (crossB a b h long)) (hh : 0 ≤ h0 ∧ h0 ≤ 90000)
    (hl : ∀ k h, l (k + 1) h = if h ≤ wrap64 (h0 + 12) then (g k h).bind (fun t => if t = true then some h else l k (wrap64 (h + 1))) else some (-1)) :
    ∀ (n : Nat) (h : Int), 0 ≤ h → h + n = h0 + 13 → Ev (fun k => l k h) (firstCross a b long h n) := by
  intro n
  have e0 : wrap64 (h0 + 12) = h0 + 12 := wrapId (by omega) (by omega)
  induction n with
  | zero =>
    intro h hp hs
    refine Ev.step (f := fun _ => some (-1)) (fun k => ?_) (Ev.now _)
    rw [hl, e0, if_neg (by omega)]
  | succ n ih =>
    intro h hp hs
    refine Ev.step (fun k => (by rw [hl, e0, if_pos (by omega), wrapId (n := h + 1) (by omega) (by omega)] : l (k + 1) h = (g k h).bind (fun t => if t = true then some h else l k (h + 1)))) ?_
    refine Ev.bind (hg h) ?_
    simp only [firstCross]
    by_cases d : crossB a b h long = true
    · simp only [d, if_true]
      exact Ev.now _
    · simp only [d]
      exact ih (h + 1) (by omega) (by omega)
theorem impl_NextCrossing_ev (a b h long : Int) : Ev (fun k => impl_NextCrossing.f k a b h long) (nextCross a b h long) := by
  unfold nextCross
  by_cases c : 0 ≤ h ∧ h ≤ 90000
  · have := nextCrossLoop (a := a) (b := b) (long := long) (fun k x => impl_NextCrossing.l0 k h long x a b) (fun k x => impl_CanCross.f k a b x long) (fun x => impl_CanCross_ev a b x long) c (fun k x => by simp only [impl_NextCrossing.l0]) 13 h c.1 (by omega)
    rw [if_pos c]
    refine Ev.congr (fun k => ?_) this
    simp only [impl_NextCrossing.f, inRange_eq, Option.bind_some, c, and_self, decide_true, if_true]
  · rw [if_neg c]
    refine Ev.congr (f := fun _ => some (-1)) (fun k => ?_) (Ev.now _)
    simp only [impl_NextCrossing.f, inRange_eq, Option.bind_some, c, decide_false]
    rfl

theorem spec_Mod12 (x : Int) : spec_Mod.f x 12 = some (x % 12) := by
  unfold spec_Mod.f
  rw [l1In_eq, Option.bind_some, if_pos (by decide), if_neg (by decide), tmod12]

theorem spec_IsDry_eq (a b h : Int) : spec_IsDry.f a b h = some (isDryB a b h) := by
  unfold spec_IsDry.f isDryB dryAt
  simp only [spec_IsTide_eq, l1In_eq, Option.bind_some, spec_Mod12]
  by_cases ht : tideOk a b
  · by_cases hh : 0 ≤ h ∧ h ≤ 100000
    · have ht' := ht
      unfold tideOk at ht'
      rw [wrapId (n := h - a) (by omega) (by omega), wrapId (n := h - a + b) (by omega) (by omega), wrapId (n := 2 * b) (by omega) (by omega)]
      simp [ht, hh]
    · simp [ht, hh]
  · simp [ht]

theorem spec_CanCross_ev (a b h long : Int) : Ev (fun k => spec_CanCross.f k a b h long) (crossB a b h long) := by
  unfold crossB
  by_cases c : (0 ≤ long ∧ long ≤ 100) ∧ (0 ≤ h ∧ h ≤ 100000)
  · have := crossLoop (a := a) (b := b) (fun k x => spec_CanCross.l0 k h long x a b) c.1 c.2 (fun k x => by simp only [spec_CanCross.l0, spec_IsDry_eq, Option.bind_some]) (long.toNat + 1) h c.2.1 (by omega)
    simp only [c, and_self, decide_true, Bool.true_and]
    refine Ev.congr (f := fun k => spec_CanCross.j0 k h long false a b) (fun k => ?_) (Ev.step (fun k => ?_) this)
    · simp only [spec_CanCross.f, l1In_eq, Option.bind_some, c, and_self, decide_true, if_true, Bool.not_true]
    · simp [spec_CanCross.j0]
  · simp only [c, decide_false, Bool.false_and]
    refine Ev.congr (f := fun k => spec_CanCross.j0 k h long true a b) (fun k => ?_) (Ev.step (f := fun _ => some false) (fun k => ?_) (Ev.now _))
    · simp only [spec_CanCross.f, l1In_eq, Option.bind_some]
      by_cases c0 : 0 ≤ long ∧ long ≤ 100
      · have c1 : ¬ (0 ≤ h ∧ h ≤ 100000) := fun x => c ⟨c0, x⟩
        simp [c0, c1]
      · simp [c0]
    · simp [spec_CanCross.j0]

theorem spec_NextCrossing_ev (a b h long : Int) : Ev (fun k => spec_NextCrossing.f k a b h long) (nextCross a b h long) := by
  unfold nextCross
  by_cases c : 0 ≤ h ∧ h ≤ 90000
  · have := nextCrossLoop (a := a) (b := b) (long := long) (fun k x => spec_NextCrossing.l0 k h long x a b) (fun k x => spec_CanCross.f k a b x long) (fun x => spec_CanCross_ev a b x long) c (fun k x => by simp only [spec_NextCrossing.l0]) 13 h c.1 (by omega)
    rw [if_pos c]
    refine Ev.congr (fun k => ?_) this
    simp only [spec_NextCrossing.f, l1In_eq, Option.bind_some, c, and_self, decide_true, if_true]
  · rw [if_neg c]
    refine Ev.congr (f := fun _ => some (-1)) (fun k => ?_) (Ev.now _)
    simp only [spec_NextCrossing.f, l1In_eq, Option.bind_some, c, decide_false]
    rfl
def FnExactNextCrossing.Claim : Prop := ∀ (a0_0 : Int) (a0_1 : Int) (a1 : Int) (a2 : Int), (Lit.int .i64 a0_0).wf = true → (Lit.int .i64 a0_1).wf = true → (Lit.int .i64 a1).wf = true → (Lit.int .i64 a2).wf = true → ∃ k, laws_FnExactNextCrossing.f k a0_0 a0_1 a1 a2 = some true
theorem FnExactNextCrossing : FnExactNextCrossing.Claim := by
  intro a b h long _ _ _ _
  apply Ev.rounds
  simp only [laws_FnExactNextCrossing.f, laws_toTide.f, Option.bind_some]
  refine Ev.bind (spec_NextCrossing_ev a b h long) (Ev.bind (impl_NextCrossing_ev a b h long) ?_)
  simp only [if_true]
  exact Ev.now _
end Go.Proofs.Ytkdclkbgejbgjac.Pure
