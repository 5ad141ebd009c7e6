/- The law Tides: whatever the bytes of the draw: the next dry hour is dry and none before it is, as many hours of twelve are dry as DryHours says, and a crossing stays dry: the law's Go function answers true. No condition beyond the kinds of the numbers. -/
import Derived.Test.YtkdclkbgejbgjacPFnTidesx3
import Derived.Test.YtkdclkbgejbgjacAid
import Derived.Laws.BitsLemmas
namespace Go.Proofs.Ytkdclkbgejbgjac.Pure
open Go.RowKit Go.Proofs.Ytkdclkbgejbgjac.PFnTides Go.Proofs.Ytkdclkbgejbgjac.Aid Go.Proofs.YtkdclkbgejbgjacW.PrintWords Go.Proofs.YtkdclkbgejbgjacW.PrintLast Go.Proofs.YtkdclkbgejbgjacW.PrintMore
set_option linter.unusedVariables false
set_option linter.unusedSimpArgs false
theorem inRange_eq (a b c : Int) : impl_InRange.f a b c = some (decide (b ≤ a ∧ a ≤ c)) := by
  unfold impl_InRange.f
  by_cases h : b ≤ a
  · rw [if_pos h]
    simp [h]
  · rw [if_neg h]
    simp [h]

def tideOk (a b : Int) : Prop := (0 ≤ a ∧ a ≤ 11) ∧ (0 ≤ b ∧ b ≤ 5)
instance (a b : Int) : Decidable (tideOk a b) := inferInstanceAs (Decidable (_ ∧ _))
theorem impl_IsTide_eq (a b : Int) : impl_IsTide.f a b = some (decide (tideOk a b)) := by
  unfold impl_IsTide.f tideOk
  simp only [inRange_eq, Option.bind_some]
  by_cases h0 : 0 ≤ a ∧ a ≤ 11 <;> simp [h0]

theorem tmod12 (x : Int) : Int.tmod (wrap64 (Int.tmod x 12 + 12)) 12 = x % 12 := by
  have key : Int.tmod x 12 = x % 12 ∨ Int.tmod x 12 = x % 12 - 12 := by
    by_cases h : 0 ≤ x
    · exact .inl (Int.tmod_eq_emod_of_nonneg h)
    · have e := Int.tmod_eq_emod (a := x) (b := 12)
      rw [e]
      split
      · exact .inl (by omega)
      · exact .inr (by simp)
  have b0 : 0 ≤ x % 12 := Int.emod_nonneg x (by omega)
  have b1 : x % 12 < 12 := Int.emod_lt_of_pos x (by omega)
  rcases key with e | e
  · rw [e, wrapId (by omega) (by omega), Int.tmod_eq_emod_of_nonneg (by omega)]
    omega
  · rw [e, wrapId (by omega) (by omega), Int.tmod_eq_emod_of_nonneg (by omega)]
    omega

theorem impl_Mod12 (x : Int) : impl_Mod.f x 12 = some (x % 12) := by
  unfold impl_Mod.f
  rw [inRange_eq, Option.bind_some, if_pos (by decide), if_neg (by decide), tmod12]

/-- Is the sand dry at an hour, as the tide alone tells it? -/
def dryAt (a b h : Int) : Bool := decide (2 * b < (h - a + b) % 12)
theorem impl_dry_eq {a b h : Int} (ht : tideOk a b) (h0 : -10 ≤ h) (h1 : h ≤ 200000) : impl_Tide_dry.f a b h = some (dryAt a b h) := by
  unfold tideOk at ht
  unfold impl_Tide_dry.f dryAt
  rw [wrapId (n := h - a) (by omega) (by omega), wrapId (n := h - a + b) (by omega) (by omega), wrapId (n := 2 * b) (by omega) (by omega), impl_Mod12]
  simp

/-- What the next dry hour is. -/
def NextIs (a b h n : Int) : Prop := h ≤ n ∧ n ≤ h + 11 ∧ dryAt a b n = true ∧ ∀ q, h ≤ q → q < n → dryAt a b q = false
theorem NextIs.one {a b h n m : Int} (x : NextIs a b h n) (y : NextIs a b h m) : n = m := by
  obtain ⟨x0, _, x1, x2⟩ := x
  obtain ⟨y0, _, y1, y2⟩ := y
  by_cases c : n < m
  · rw [y2 n x0 c] at x1
    cases x1
  · by_cases c' : m < n
    · rw [x2 m y0 c'] at y1
      cases y1
    · omega
/-- A loop that goes on hour by hour till it is dry. -/
theorem nextLoop {a b : Int} (ht : tideOk a b) (l : Nat → Int → Option Int) (hl : ∀ k h, 0 ≤ h → h ≤ 150000 → l (k + 1) h = if dryAt a b h = true then some h else l k (h + 1)) :
    ∀ (d : Nat) (h : Int), 0 ≤ h → h + d ≤ 150000 → 11 - (h - a + b) % 12 ≤ d →
    ∃ n, Ev (fun k => l k h) n ∧ h ≤ n ∧ n ≤ h + d ∧ dryAt a b n = true ∧ ∀ q, h ≤ q → q < n → dryAt a b q = false := by
  intro d
  induction d with
  | zero =>
    intro h h0 h1 hm
    have hd : dryAt a b h = true := by
      unfold tideOk at ht
      unfold dryAt
      simp only [decide_eq_true_eq]
      omega
    refine ⟨h, Ev.step (f := fun _ => some h) (fun k => ?_) (Ev.now h), by omega, by omega, hd, fun q _ _ => by omega⟩
    rw [hl k h h0 (by omega), if_pos hd]
  | succ d ih =>
    intro h h0 h1 hm
    by_cases hd : dryAt a b h = true
    · refine ⟨h, Ev.step (f := fun _ => some h) (fun k => ?_) (Ev.now h), by omega, by omega, hd, fun q _ _ => by omega⟩
      rw [hl k h h0 (by omega), if_pos hd]
    · have hm' : 11 - (h + 1 - a + b) % 12 ≤ d := by
        unfold tideOk at ht
        unfold dryAt at hd
        simp only [decide_eq_true_eq] at hd
        omega
      obtain ⟨n, hn, g0, g1, g2, g3⟩ := ih (h + 1) (by omega) (by omega) hm'
      refine ⟨n, Ev.step (fun k => ?_) hn, by omega, by omega, g2, fun q q0 q1 => ?_⟩
      · rw [hl k h h0 (by omega), if_neg hd]
      · by_cases e : q = h
        · subst e
          simpa using hd
        · exact g3 q (by omega) q1
/-- What NextDry answers. -/
theorem impl_NextDry_ev (a b h : Int) : ∃ n, Ev (fun k => impl_NextDry.f k a b h) n ∧
    ((¬ (tideOk a b ∧ 0 ≤ h ∧ h ≤ 100000) ∧ n = -1) ∨ ((tideOk a b ∧ 0 ≤ h ∧ h ≤ 100000) ∧ NextIs a b h n)) := by
  by_cases c : tideOk a b ∧ 0 ≤ h ∧ h ≤ 100000
  · have hb : 11 - (h - a + b) % 12 ≤ (11 : Nat) := by omega
    obtain ⟨n, hn, g0, g1, g2, g3⟩ := nextLoop c.1 (fun k h => impl_NextDry.l0 k h a b) (fun k h h0 h1 => by
      simp only [impl_NextDry.l0, impl_dry_eq c.1 (by omega : -10 ≤ h) (by omega), Option.bind_some]
      rw [wrapId (n := h + 1) (by omega) (by omega)]) 11 h c.2.1 (by omega) hb
    refine ⟨n, ?_, .inr ⟨c, g0, by omega, g2, g3⟩⟩
    refine Ev.congr (f := fun k => impl_NextDry.j0 k h false a b) (fun k => ?_) (Ev.step (fun k => ?_) hn)
    · simp only [impl_NextDry.f, impl_IsTide_eq, inRange_eq, Option.bind_some, c, and_self, decide_true, if_true, Bool.not_true]
    · simp [impl_NextDry.j0]
  · refine ⟨-1, ?_, .inl ⟨c, rfl⟩⟩
    refine Ev.congr (f := fun k => impl_NextDry.j0 k h true a b) (fun k => ?_) (Ev.step (f := fun _ => some (-1)) (fun k => ?_) (Ev.now _))
    · simp only [impl_NextDry.f, impl_IsTide_eq, inRange_eq, Option.bind_some]
      by_cases ht : tideOk a b
      · have hh : ¬ (0 ≤ h ∧ h ≤ 100000) := fun hh => c ⟨ht, hh⟩
        simp [ht, hh]
      · simp [ht]
    · simp [impl_NextDry.j0]

def isDryB (a b h : Int) : Bool := decide (tideOk a b) && (decide (0 ≤ h ∧ h ≤ 100000) && dryAt a b h)
theorem impl_IsDry_eq (a b h : Int) : impl_IsDry.f a b h = some (isDryB a b h) := by
  unfold impl_IsDry.f isDryB
  simp only [impl_IsTide_eq, inRange_eq, Option.bind_some]
  by_cases ht : tideOk a b
  · by_cases hh : 0 ≤ h ∧ h ≤ 100000
    · rw [impl_dry_eq ht (by omega) (by omega)]
      simp [ht, hh]
    · simp [ht, hh]
  · simp [ht]

/-- Is each of n hours from h on dry? -/
def dryAll (a b h : Int) : Nat → Bool
  | 0 => true
  | n + 1 => isDryB a b h && dryAll a b (h + 1) n
theorem dryAll_first {a b h : Int} {n : Nat} (e : dryAll a b h (n + 1) = true) : isDryB a b h = true := by
  simp only [dryAll, Bool.and_eq_true] at e
  exact e.1
theorem dryAll_last {a b : Int} : ∀ (n : Nat) (h : Int), dryAll a b h (n + 1) = true → isDryB a b (h + n) = true
  | 0, h, e => by simpa using dryAll_first e
  | n + 1, h, e => by
    have e' : dryAll a b (h + 1) (n + 1) = true := by
      simp only [dryAll, Bool.and_eq_true] at e ⊢
      exact e.2
    have := dryAll_last n (h + 1) e'
    rw [show h + ((n + 1 : Nat) : Int) = h + 1 + (n : Int) by omega]
    exact this
def crossB (a b h long : Int) : Bool := decide ((0 ≤ long ∧ long ≤ 100) ∧ (0 ≤ h ∧ h ≤ 100000)) && dryAll a b h (long.toNat + 1)
theorem crossLoop {a b h0 long : Int} (l : Nat → Int → Option Bool) (hb : 0 ≤ long ∧ long ≤ 100) (hh : 0 ≤ h0 ∧ h0 ≤ 100000)
    (hl : ∀ k h, l (k + 1) h = if h ≤ wrap64 (h0 + long) then (if isDryB a b h = true then l k (wrap64 (h + 1)) else some false) else some true) :
    ∀ (n : Nat) (h : Int), 0 ≤ h → h + n = h0 + long + 1 → Ev (fun k => l k h) (dryAll a b h n) := by
  intro n
  have e0 : wrap64 (h0 + long) = h0 + long := wrapId (by omega) (by omega)
  induction n with
  | zero =>
    intro h hp hs
    refine Ev.step (f := fun _ => some true) (fun k => ?_) (Ev.now _)
    rw [hl, e0, if_neg (by omega)]
  | succ n ih =>
    intro h hp hs
    by_cases d : isDryB a b h = true
    · have := ih (h + 1) (by omega) (by omega)
      rw [show dryAll a b h (n + 1) = dryAll a b (h + 1) n by simp [dryAll, d]]
      refine Ev.step (fun k => ?_) this
      rw [hl, e0, if_pos (by omega), if_pos d, wrapId (n := h + 1) (by omega) (by omega)]
    · rw [show dryAll a b h (n + 1) = false by simp [dryAll, d]]
      refine Ev.step (f := fun _ => some false) (fun k => ?_) (Ev.now _)
      rw [hl, e0, if_pos (by omega), if_neg d]
theorem impl_CanCross_ev (a b h long : Int) : Ev (fun k => impl_CanCross.f k a b h long) (crossB a b h long) := by
  unfold crossB
  by_cases c : (0 ≤ long ∧ long ≤ 100) ∧ (0 ≤ h ∧ h ≤ 100000)
  · have := crossLoop (a := a) (b := b) (fun k x => impl_CanCross.l0 k h long x a b) c.1 c.2 (fun k x => by simp only [impl_CanCross.l0, impl_IsDry_eq, Option.bind_some]) (long.toNat + 1) h c.2.1 (by omega)
    simp only [c, and_self, decide_true, Bool.true_and]
    refine Ev.congr (f := fun k => impl_CanCross.j0 k h long false a b) (fun k => ?_) (Ev.step (fun k => ?_) this)
    · simp only [impl_CanCross.f, inRange_eq, Option.bind_some, c, and_self, decide_true, if_true, Bool.not_true]
    · simp [impl_CanCross.j0]
  · simp only [c, decide_false, Bool.false_and]
    refine Ev.congr (f := fun k => impl_CanCross.j0 k h long true a b) (fun k => ?_) (Ev.step (f := fun _ => some false) (fun k => ?_) (Ev.now _))
    · simp only [impl_CanCross.f, inRange_eq, Option.bind_some]
      by_cases c0 : 0 ≤ long ∧ long ≤ 100
      · have c1 : ¬ (0 ≤ h ∧ h ≤ 100000) := fun x => c ⟨c0, x⟩
        simp [c0, c1]
      · simp [c0]
    · simp [impl_CanCross.j0]

/-- The first of n hours from h on at which one can cross; -1 if there is none. -/
def firstCross (a b long h : Int) : Nat → Int
  | 0 => -1
  | n + 1 => if crossB a b h long = true then h else firstCross a b long (h + 1) n
theorem firstCross_is {a b long : Int} : ∀ (n : Nat) (h : Int), firstCross a b long h n = -1 ∨ (h ≤ firstCross a b long h n ∧ crossB a b (firstCross a b long h n) long = true)
  | 0, h => .inl rfl
  | n + 1, h => by
    simp only [firstCross]
    split
    · rename_i c
      exact .inr ⟨Int.le_refl _, c⟩
    · rcases firstCross_is n (h + 1) with e | ⟨e0, e1⟩
      · exact .inl e
      · exact .inr ⟨by omega, e1⟩
def nextCross (a b h long : Int) : Int := if 0 ≤ h ∧ h ≤ 90000 then firstCross a b long h 13 else -1
theorem nextCrossLoop {a b h0 long : Int} (l : Nat → Int → Option Int) (g : Nat → Int → Option Bool) (hg : ∀ h, Ev (fun k => g k h) (crossB a b h long)) (hh : 0 ≤ h0 ∧ h0 ≤ 90000)
    (hl : ∀ k h, l (k + 1) h = if h ≤ wrap64 (h0 + 12) then (g k h).bind (fun t => if t = true then some h else l k (wrap64 (h + 1))) else some (-1)) :
    ∀ (n : Nat) (h : Int), 0 ≤ h → h + n = h0 + 13 → Ev (fun k => l k h) (firstCross a b long h n) := by
  intro n
  have e0 : wrap64 (h0 + 12) = h0 + 12 := wrapId (by omega) (by omega)
  induction n with
  | zero =>
    intro h hp hs
    refine Ev.step (f := fun _ => some (-1)) (fun k => ?_) (Ev.now _)
    rw [hl, e0, if_neg (by omega)]
  | succ n ih =>
    intro h hp hs
    refine Ev.step (fun k => (by rw [hl, e0, if_pos (by omega), wrapId (n := h + 1) (by omega) (by omega)] : l (k + 1) h = (g k h).bind (fun t => if t = true then some h else l k (h + 1)))) ?_
    refine Ev.bind (hg h) ?_
    simp only [firstCross]
    by_cases d : crossB a b h long = true
    · simp only [d, if_true]
      exact Ev.now _
    · simp only [d]
      exact ih (h + 1) (by omega) (by omega)
theorem impl_NextCrossing_ev (a b h long : Int) : Ev (fun k => impl_NextCrossing.f k a b h long) (nextCross a b h long) := by
  unfold nextCross
  by_cases c : 0 ≤ h ∧ h ≤ 90000
  · have := nextCrossLoop (a := a) (b := b) (long := long) (fun k x => impl_NextCrossing.l0 k h long x a b) (fun k x => impl_CanCross.f k a b x long) (fun x => impl_CanCross_ev a b x long) c (fun k x => by simp only [impl_NextCrossing.l0]) 13 h c.1 (by omega)
    rw [if_pos c]
    refine Ev.congr (fun k => ?_) this
    simp only [impl_NextCrossing.f, inRange_eq, Option.bind_some, c, and_self, decide_true, if_true]
  · rw [if_neg c]
    refine Ev.congr (f := fun _ => some (-1)) (fun k => ?_) (Ev.now _)
    simp only [impl_NextCrossing.f, inRange_eq, Option.bind_some, c, decide_false]
    rfl

/-- The cursor over the bytes of a draw stands within them. -/
def curOk (b : List Int) (i : Int) : Prop := 0 ≤ i ∧ i ≤ (b.length : Int) ∧ b.length ≤ 1048576
theorem and255 (x : Int) : 0 ≤ Go.bits .and .i64 x 255 ∧ Go.bits .and .i64 x 255 ≤ 255 := by
  have h : (BitVec.ofInt 64 x &&& BitVec.ofInt 64 255).toNat ≤ 255 := by
    rw [BitVec.toNat_and]
    exact Nat.and_le_right
  have e : Go.bits .and .i64 x 255 = IntKind.i64.wrap ((BitVec.ofInt 64 x &&& BitVec.ofInt 64 255).toNat : Int) := rfl
  rw [e, IntKind.wrap_i64]
  omega
theorem l1New_ev {l : List Int} (hl : l.length ≤ 1048576) : ∃ h, Ev (fun k => spec_l1New.f k l) (l, 0, h) := by
  have key : ∀ (d : Nat) (i : Nat) (h : Int), (l.length : Int) - i ≤ d → ∃ r, Ev (fun k => spec_l1New.l0 k l h (i : Int)) (l, 0, r) := by
    intro d
    induction d with
    | zero =>
      intro i h hd
      refine ⟨h, Ev.step (f := fun _ => some (l, 0, h)) (fun k => ?_) (Ev.now _)⟩
      simp only [spec_l1New.l0]
      rw [if_neg (by omega)]
    | succ d ih =>
      intro i h hd
      by_cases c : (i : Int) < (l.length : Int)
      · by_cases c2 : (i : Int) < 4000
        · obtain ⟨r, hr⟩ := ih (i + 1) (Go.bits .and .i64 (wrap64 ((wrap64 ((wrap64 (h * 137)) + (wrap64 (rd l (i : Int))))) + 11)) 1073741823) (by omega)
          refine ⟨r, Ev.step (fun k => ?_) hr⟩
          simp only [spec_l1New.l0]
          rw [if_pos c, if_pos c2, if_pos (by omega), wrapSucc (by omega)]
        · refine ⟨h, Ev.step (f := fun _ => some (l, 0, h)) (fun k => ?_) (Ev.now _)⟩
          simp only [spec_l1New.l0]
          rw [if_pos c, if_neg c2]
      · refine ⟨h, Ev.step (f := fun _ => some (l, 0, h)) (fun k => ?_) (Ev.now _)⟩
        simp only [spec_l1New.l0]
        rw [if_neg c]
  obtain ⟨r, hr⟩ := key l.length 0 (wrap64 (193017 + (l.length : Int))) (by omega)
  refine ⟨r, ?_⟩
  unfold spec_l1New.f
  exact hr
theorem l1Byte_some {b : List Int} {i : Int} (h : Int) (hc : curOk b i) : ∃ x i' h', spec_l1Byte.f b i h = some (x, i', h') ∧ (0 ≤ x ∧ x ≤ 255) ∧ curOk b i' := by
  unfold curOk at hc
  unfold spec_l1Byte.f
  by_cases c : i < (b.length : Int)
  · rw [if_pos c, if_pos hc.1]
    refine ⟨_, _, _, rfl, and255 _, ?_⟩
    rw [wrapId (n := i + 1) (by omega) (by omega)]
    unfold curOk
    omega
  · rw [if_neg c]
    exact ⟨_, _, _, rfl, and255 _, hc⟩
theorem l1Below_some {b : List Int} {i : Int} (h : Int) {n : Int} (hn : 1 ≤ n ∧ n ≤ 256) (hc : curOk b i) : ∃ x i' h', spec_l1Below.f b i h n = some (x, i', h') ∧ (0 ≤ x ∧ x < n) ∧ curOk b i' := by
  unfold spec_l1Below.f
  obtain ⟨x, i', h', e, hx, hc'⟩ := l1Byte_some h hc
  rw [if_neg (by omega), if_pos hn.2, e]
  simp only [Option.bind_some]
  rw [if_neg (by omega), Int.tmod_eq_emod_of_nonneg hx.1]
  exact ⟨_, _, _, rfl, ⟨Int.emod_nonneg _ (by omega), Int.emod_lt_of_pos _ (by omega)⟩, hc'⟩
theorem l1Below_zero (b : List Int) (i h : Int) {n : Int} (hn : n ≤ 0) : spec_l1Below.f b i h n = some (0, i, h) := by
  unfold spec_l1Below.f
  rw [if_pos hn]

theorem l1Int_some {b : List Int} {i : Int} (h : Int) {l : List Int} (hl : 1 ≤ l.length ∧ l.length ≤ 256) (hc : curOk b i) : ∃ x i' h', spec_l1Int.f b i h l = some (x, i', h') ∧ x ∈ l ∧ curOk b i' := by
  unfold spec_l1Int.f
  obtain ⟨x, i', h', e, hx, hc'⟩ := l1Below_some h (n := (l.length : Int)) (by omega) hc
  rw [e]
  simp only [Option.bind_some]
  rw [if_pos hx.1, if_pos hx.2]
  refine ⟨_, _, _, rfl, ?_, hc'⟩
  unfold rd
  rw [getD_lt (by omega)]
  exact List.getElem_mem _

theorem big_eq (l : List Int) : laws_big.f l = some (decide ((l.length : Int) > 1048576)) := rfl
theorem curStart {l : List Int} (hl : l.length ≤ 1048576) : curOk l 0 := by unfold curOk; omega

theorem l15Any_some {b : List Int} {i : Int} (h : Int) (hc : curOk b i) : ∃ x y i' h', spec_l15Any.f b i h = some (x, y, i', h') ∧ curOk b i' := by
  unfold spec_l15Any.f
  obtain ⟨x, i1, h1, e1, _, c1⟩ := l1Below_some h (n := 12) (by omega) hc
  obtain ⟨y, i2, h2, e2, _, c2⟩ := l1Below_some h1 (n := 6) (by omega) c1
  obtain ⟨z, i3, h3, e3, _, c3⟩ := l1Below_some h2 (n := 10) (by omega) c2
  simp only [e1, e2, e3, Option.bind_some]
  by_cases q : z = 0
  · obtain ⟨u, i4, h4, e4, _, c4⟩ := l1Int_some h3 (l := [-1, 11, 12]) (by decide) c3
    simp only [if_pos q, e4, Option.bind_some]
    exact ⟨_, _, _, _, rfl, c4⟩
  · by_cases q1 : z = 1
    · obtain ⟨u, i4, h4, e4, _, c4⟩ := l1Int_some h3 (l := [-1, 5, 6]) (by decide) c3
      simp only [if_neg q, if_pos q1, e4, Option.bind_some]
      exact ⟨_, _, _, _, rfl, c4⟩
    · simp only [if_neg q, if_neg q1]
      exact ⟨_, _, _, _, rfl, c3⟩
theorem l15Hour_some {b : List Int} {i : Int} (h : Int) (hc : curOk b i) : ∃ x i' h', spec_l15Hour.f b i h = some (x, i', h') ∧ (-1 ≤ x ∧ x ≤ 100001) ∧ curOk b i' := by
  unfold spec_l15Hour.f
  obtain ⟨u, i2, h2, e2, x2, c2⟩ := l1Below_some h (n := 50) (by omega) hc
  obtain ⟨v, i3, h3, e3, x3, c3⟩ := l1Below_some h2 (n := 50) (by omega) c2
  obtain ⟨w, i4, h4, e4, m4, c4⟩ := l1Int_some h3 (l := [u, v, 90000, 90001, 100000, 100001, -1]) (by simp) c3
  simp only [e2, e3, e4, Option.bind_some]
  refine ⟨_, _, _, rfl, ?_, c4⟩
  simp only [List.mem_cons, List.not_mem_nil, or_false] at m4
  omega
theorem DrawIsDry_ev {l : List Int} (hl : l.length ≤ 1048576) : ∃ a b h, Ev (fun k => spec_DrawIsDry.f k l) (a, b, h) ∧ (-1 ≤ h ∧ h ≤ 100001) := by
  unfold spec_DrawIsDry.f
  obtain ⟨s, e0⟩ := l1New_ev hl
  obtain ⟨x, y, i1, h1, e1, c1⟩ := l15Any_some s (curStart hl)
  obtain ⟨w, i2, h2, e2, b2, c2⟩ := l15Hour_some h1 c1
  refine ⟨x, y, w, Ev.bind e0 ?_, b2⟩
  simp only [e1, e2, Option.bind_some]
  exact Ev.now _
theorem DrawNextDry_ev {l : List Int} (hl : l.length ≤ 1048576) : ∃ a b h, Ev (fun k => spec_DrawNextDry.f k l) (a, b, h) ∧ (-1 ≤ h ∧ h ≤ 100001) := by
  unfold spec_DrawNextDry.f
  obtain ⟨a, b, h, e, q⟩ := DrawIsDry_ev hl
  exact ⟨a, b, h, Ev.bind e (Ev.now _), q⟩
theorem DrawNextCrossing_ev {l : List Int} (hl : l.length ≤ 1048576) : ∃ a b h long, Ev (fun k => spec_DrawNextCrossing.f k l) (a, b, h, long) := by
  unfold spec_DrawNextCrossing.f spec_DrawCanCross.f
  obtain ⟨a, b, h, e, q⟩ := DrawIsDry_ev hl
  obtain ⟨s, e0⟩ := l1New_ev hl
  obtain ⟨w, i4, h4, e4, m4, c4⟩ := l1Int_some s (l := [0, 1, 3, 5, 10, 100, 101, -1]) (by decide) (curStart hl)
  refine ⟨a, b, h, w, Ev.bind (a := (a, b, h, w)) (Ev.bind e (Ev.bind e0 ?_)) (Ev.now _)⟩
  simp only [e4, Option.bind_some]
  exact Ev.now _
theorem impl_DryHours_eq (a b : Int) : impl_DryHours.f a b = some (if tideOk a b then 11 - 2 * b else 0) := by
  unfold impl_DryHours.f
  simp only [impl_IsTide_eq, Option.bind_some]
  by_cases ht : tideOk a b
  · have ht' := ht
    unfold tideOk at ht'
    rw [wrapId (n := 2 * b) (by omega) (by omega), wrapId (n := 12 - 2 * b) (by omega) (by omega), wrapId (n := 12 - 2 * b - 1) (by omega) (by omega)]
    simp only [ht, decide_true, if_true]
    congr 1
    omega
  · simp [ht]
/-- The end: a crossing stays dry. -/
def tail (k : Nat) (l : List Int) : Option Bool := (spec_DrawNextCrossing.f k l).bind fun d => (impl_NextCrossing.f k d.1 d.2.1 d.2.2.1 d.2.2.2).bind fun n => (if n = (-1) then (some true) else (if n ≥ d.2.2.1 then ((impl_CanCross.f k d.1 d.2.1 n d.2.2.2).bind fun q => (if q = true then ((impl_IsDry.f d.1 d.2.1 n).bind fun q => (if q = true then ((impl_IsDry.f d.1 d.2.1 (wrap64 (n + d.2.2.2))).bind fun q => (some q)) else (some false))) else (some false))) else (some false)))
theorem tail_ev {l : List Int} (hl : l.length ≤ 1048576) : Ev (fun k => tail k l) true := by
  unfold tail
  obtain ⟨a, b, h, long, e⟩ := DrawNextCrossing_ev hl
  refine Ev.bind e (Ev.bind (impl_NextCrossing_ev a b h long) ?_)
  by_cases c : nextCross a b h long = -1
  · exact evPos c (Ev.now _)
  refine evNeg c ?_
  unfold nextCross at c ⊢
  by_cases c0 : 0 ≤ h ∧ h ≤ 90000
  · rw [if_pos c0] at c
    simp only [if_pos c0]
    rcases firstCross_is (a := a) (b := b) (long := long) 13 h with x | ⟨x0, x1⟩
    · exact absurd x c
    · refine evPos x0 (Ev.bind (impl_CanCross_ev _ _ _ _) (evPos x1 ?_))
      have x1' := x1
      unfold crossB at x1'
      simp only [Bool.and_eq_true, decide_eq_true_eq] at x1'
      obtain ⟨⟨g0, g1⟩, g2⟩ := x1'
      have d0 := dryAll_first g2
      have d1 := dryAll_last long.toNat _ g2
      rw [show ((long.toNat : Nat) : Int) = long by omega] at d1
      simp only [impl_IsDry_eq, Option.bind_some, d0, if_true]
      rw [wrapId (by omega) (by omega), d1]
      exact Ev.now _
  · rw [if_neg c0] at c
    exact absurd rfl c
/-- How many of n hours from the i-th behind seven on are dry. -/
def dryCount (a b : Int) : Int → Nat → Int
  | _, 0 => 0
  | i, n + 1 => (if isDryB a b (7 + i) = true then 1 else 0) + dryCount a b (i + 1) n
theorem dryCount_none {a b : Int} (h : ¬ tideOk a b) : ∀ (n : Nat) (i : Int), dryCount a b i n = 0
  | 0, _ => rfl
  | n + 1, i => by
    simp only [dryCount]
    rw [dryCount_none h n (i + 1), if_neg (by unfold isDryB; simp [h])]
    rfl
theorem dryCount_all : ∀ a : Fin 12, ∀ b : Fin 6, dryCount (a.1 : Int) (b.1 : Int) 0 12 = 11 - 2 * (b.1 : Int) := by decide +kernel
theorem l1_ev {l : List Int} (hl : l.length ≤ 1048576) (a b : Int) : ∀ (n : Nat) (c i : Int), 0 ≤ i → i + n = 12 → 0 ≤ c → c ≤ i → c + dryCount a b i n = (if tideOk a b then 11 - 2 * b else 0) → Ev (fun k => laws_FnTides.l1 k l c i a b) true := by
  intro n
  induction n with
  | zero =>
    intro c i hi hs hc hci h
    refine Ev.step (fun k => ?_) (tail_ev hl)
    simp only [laws_FnTides.l1, impl_DryHours_eq, Option.bind_some]
    simp only [dryCount, Int.add_zero] at h
    rw [if_neg (by omega), if_pos h]
    rfl
  | succ n ih =>
    intro c i hi hs hc hci h
    have st : ∀ k, laws_FnTides.l1 (k + 1) l c i a b = if isDryB a b (7 + i) = true then laws_FnTides.l1 k l (c + 1) (i + 1) a b else laws_FnTides.l1 k l c (i + 1) a b := by
      intro k
      simp only [laws_FnTides.l1, impl_IsDry_eq, Option.bind_some]
      rw [if_pos (by omega), wrapId (n := 7 + i) (by omega) (by omega), wrapId (n := c + 1) (by omega) (by omega), wrapId (n := i + 1) (by omega) (by omega)]
    refine Ev.step st ?_
    simp only [dryCount] at h
    by_cases d : isDryB a b (7 + i) = true
    · rw [if_pos d] at h
      exact evPos d (ih (c + 1) (i + 1) (by omega) (by omega) (by omega) (by omega) (by omega))
    · rw [if_neg d] at h
      exact evNeg d (ih c (i + 1) (by omega) (by omega) (by omega) (by omega) (by omega))
theorem count_ev {l : List Int} (hl : l.length ≤ 1048576) (a b : Int) : Ev (fun k => laws_FnTides.l1 k l 0 0 a b) true := by
  refine l1_ev hl a b 12 0 0 (by omega) (by omega) (by omega) (by omega) ?_
  by_cases h : tideOk a b
  · have h' := h
    unfold tideOk at h'
    have := dryCount_all ⟨a.toNat, by omega⟩ ⟨b.toNat, by omega⟩
    simp only [show ((a.toNat : Nat) : Int) = a by omega, show ((b.toNat : Nat) : Int) = b by omega] at this
    rw [if_pos h, this]
    omega
  · rw [if_neg h, dryCount_none h]
    rfl
theorem l0_ev {l : List Int} (hl : l.length ≤ 1048576) (a b : Int) {h0 n : Int} (hn : n = -1 ∨ (0 ≤ h0 ∧ n ≤ 200000 ∧ ∀ q, h0 ≤ q → q < n → isDryB a b q = false)) : ∀ (d : Nat) (h : Int), h0 ≤ h → n - h ≤ d → Ev (fun k => laws_FnTides.l0 k l n h a b) true := by
  have stop : ∀ h, Ev (fun k => laws_FnTides.j2 k l n h false a b) true := by
    intro h
    refine Ev.step (fun k => ?_) (count_ev hl a b)
    simp only [laws_FnTides.j2, Bool.false_eq_true, if_false]
  intro d
  induction d with
  | zero =>
    intro h hh hd
    refine Ev.step (fun k => ?_) (stop h)
    simp only [laws_FnTides.l0]
    by_cases c : n ≥ 0
    · rw [if_pos c, decide_eq_false (by omega)]
    · rw [if_neg c]
  | succ d ih =>
    intro h hh hd
    by_cases c : n ≥ 0 ∧ h < n
    · rcases hn with x | ⟨x0, x1, x2⟩
      · omega
      · refine Ev.step (f := fun k => laws_FnTides.j2 k l n h true a b) (fun k => ?_) (Ev.step (fun k => ?_) (ih (h + 1) (by omega) (by omega)))
        · simp only [laws_FnTides.l0]
          rw [if_pos c.1, decide_eq_true c.2]
        · simp only [laws_FnTides.j2, if_true, impl_IsDry_eq, Option.bind_some, x2 h hh c.2]
          rw [if_neg (by decide), wrapId (n := h + 1) (by omega) (by omega)]
    · refine Ev.step (fun k => ?_) (stop h)
      simp only [laws_FnTides.l0]
      by_cases c1 : n ≥ 0
      · rw [if_pos c1, decide_eq_false (fun x => c ⟨c1, x⟩)]
      · rw [if_neg c1]
theorem j0_ev {l : List Int} (hl : l.length ≤ 1048576) (a b : Int) {h n : Int} (hn : n = -1 ∨ (0 ≤ h ∧ n ≤ 200000 ∧ ∀ q, h ≤ q → q < n → isDryB a b q = false)) : Ev (fun k => laws_FnTides.j0 k l h n false a b) true := by
  refine Ev.step (fun k => ?_) (l0_ev hl a b hn (n - h).toNat h (by omega) (by omega))
  simp only [laws_FnTides.j0, Bool.false_eq_true, if_false]
def FnTides.Claim : Prop := ∀ (l0 : List (Int)), l0.length ≤ maxLen → (∀ x ∈ l0, (Lit.int .u8 x).wf = true) → ∃ k, laws_FnTides.f k l0 = some true
theorem FnTides : FnTides.Claim := by
  intro l _ _
  apply Ev.rounds
  unfold laws_FnTides.f
  simp only [big_eq, Option.bind_some]
  by_cases hb : (l.length : Int) > 1048576
  · exact evPos (decide_eq_true hb) (Ev.now _)
  refine evNeg (by rw [decide_eq_true_eq]; exact hb) ?_
  have hl : l.length ≤ 1048576 := by omega
  obtain ⟨a, b, h, e, hh⟩ := DrawNextDry_ev hl
  obtain ⟨n, hn, pn⟩ := impl_NextDry_ev a b h
  refine Ev.bind e (Ev.bind hn ?_)
  dsimp only
  rcases pn with ⟨_, rfl⟩ | ⟨c, p0, p1, p2, p3⟩
  · exact evNeg (by omega) (j0_ev hl a b (.inl rfl))
  · have none_ : ∀ q, h ≤ q → q < n → isDryB a b q = false := by
      intro q q0 q1
      unfold isDryB
      rw [p3 q q0 q1]
      simp
    have k0 := j0_ev hl a b (h := h) (n := n) (.inr ⟨by omega, by omega, none_⟩)
    refine evPos (by omega) (evNeg (by omega) ?_)
    simp only [wrapId (n := h + 12) (by omega) (by omega)]
    refine evNeg (by omega) ?_
    by_cases c1 : n ≤ 100000
    · refine evPos c1 ?_
      have d : isDryB a b n = true := by
        unfold isDryB
        rw [p2, decide_eq_true c.1, decide_eq_true (show 0 ≤ n ∧ n ≤ 100000 by omega)]
        rfl
      simp only [impl_IsDry_eq, Option.bind_some, d, Bool.not_true]
      exact k0
    · exact evNeg c1 k0
end Go.Proofs.Ytkdclkbgejbgjac.Pure
