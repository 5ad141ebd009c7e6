/- The law Radio: whatever the bytes of the draw: nothing is missed while one hears, and the alarm comes just when two calls are missing: the law's Go function answers true. No condition beyond the kinds of the numbers. -/
import Derived.Test.YtkdclkbgejbgjacPFnRadiox4
import Derived.Test.YtkdclkbgejbgjacAid
import Derived.Laws.BitsLemmas
namespace Go.Proofs.Ytkdclkbgejbgjac.Pure
open Go.RowKit Go.Proofs.Ytkdclkbgejbgjac.PFnRadio Go.Proofs.Ytkdclkbgejbgjac.Aid Go.Proofs.YtkdclkbgejbgjacW.PrintWords Go.Proofs.YtkdclkbgejbgjacW.PrintLast Go.Proofs.YtkdclkbgejbgjacW.PrintMore
set_option linter.unusedVariables false
set_option linter.unusedSimpArgs false
theorem inRange_eq (a b c : Int) : impl_InRange.f a b c = some (decide (b ≤ a ∧ a ≤ c)) := by
  unfold impl_InRange.f
  by_cases h : b ≤ a
  · rw [if_pos h]
    simp [h]
  · rw [if_neg h]
    simp [h]

def radioOk (a b : Int) : Prop := (0 ≤ a ∧ a ≤ 100000) ∧ (0 ≤ b ∧ b ≤ 1000)
instance (a b : Int) : Decidable (radioOk a b) := inferInstanceAs (Decidable (_ ∧ _))
theorem impl_IsRadio_eq (a b : Int) : impl_IsRadio.f a b = some (decide (radioOk a b)) := by
  unfold impl_IsRadio.f radioOk
  simp only [inRange_eq, Option.bind_some]
  by_cases h0 : 0 ≤ a ∧ a ≤ 100000 <;> simp [h0]

/-- The cursor over the bytes of a draw stands within them. -/
def curOk (b : List Int) (i : Int) : Prop := 0 ≤ i ∧ i ≤ (b.length : Int) ∧ b.length ≤ 1048576
theorem and255 (x : Int) : 0 ≤ Go.bits .and .i64 x 255 ∧ Go.bits .and .i64 x 255 ≤ 255 := by
  have h : (BitVec.ofInt 64 x &&& BitVec.ofInt 64 255).toNat ≤ 255 := by
    rw [BitVec.toNat_and]
    exact Nat.and_le_right
  have e : Go.bits .and .i64 x 255 = IntKind.i64.wrap ((BitVec.ofInt 64 x &&& BitVec.ofInt 64 255).toNat : Int) := rfl
  rw [e, IntKind.wrap_i64]
  omega
theorem l1New_ev {l : List Int} (hl : l.length ≤ 1048576) : ∃ h, Ev (fun k => spec_l1New.f k l) (l, 0, h) := by
  have key : ∀ (d : Nat) (i : Nat) (h : Int), (l.length : Int) - i ≤ d → ∃ r, Ev (fun k => spec_l1New.l0 k l h (i : Int)) (l, 0, r) := by
    intro d
    induction d with
    | zero =>
      intro i h hd
      refine ⟨h, Ev.step (f := fun _ => some (l, 0, h)) (fun k => ?_) (Ev.now _)⟩
      simp only [spec_l1New.l0]
      rw [if_neg (by omega)]
    | succ d ih =>
      intro i h hd
      by_cases c : (i : Int) < (l.length : Int)
      · by_cases c2 : (i : Int) < 4000
        · obtain ⟨r, hr⟩ := ih (i + 1) (Go.bits .and .i64 (wrap64 ((wrap64 ((wrap64 (h * 137)) + (wrap64 (rd l (i : Int))))) + 11)) 1073741823) (by omega)
          refine ⟨r, Ev.step (fun k => ?_) hr⟩
          simp only [spec_l1New.l0]
          rw [if_pos c, if_pos c2, if_pos (by omega), wrapSucc (by omega)]
        · refine ⟨h, Ev.step (f := fun _ => some (l, 0, h)) (fun k => ?_) (Ev.now _)⟩
          simp only [spec_l1New.l0]
          rw [if_pos c, if_neg c2]
      · refine ⟨h, Ev.step (f := fun _ => some (l, 0, h)) (fun k => ?_) (Ev.now _)⟩
        simp only [spec_l1New.l0]
        rw [if_neg c]
  obtain ⟨r, hr⟩ := key l.length 0 (wrap64 (193017 + (l.length : Int))) (by omega)
  refine ⟨r, ?_⟩
  unfold spec_l1New.f
  exact hr
theorem l1Byte_some {b : List Int} {i : Int} (h : Int) (hc : curOk b i) : ∃ x i' h', spec_l1Byte.f b i h = some (x, i', h') ∧ (0 ≤ x ∧ x ≤ 255) ∧ curOk b i' := by
  unfold curOk at hc
  unfold spec_l1Byte.f
  by_cases c : i < (b.length : Int)
  · rw [if_pos c, if_pos hc.1]
    refine ⟨_, _, _, rfl, and255 _, ?_⟩
    rw [wrapId (n := i + 1) (by omega) (by omega)]
    unfold curOk
    omega
  · rw [if_neg c]
    exact ⟨_, _, _, rfl, and255 _, hc⟩
theorem l1Below_some {b : List Int} {i : Int} (h : Int) {n : Int} (hn : 1 ≤ n ∧ n ≤ 256) (hc : curOk b i) : ∃ x i' h', spec_l1Below.f b i h n = some (x, i', h') ∧ (0 ≤ x ∧ x < n) ∧ curOk b i' := by
  unfold spec_l1Below.f
  obtain ⟨x, i', h', e, hx, hc'⟩ := l1Byte_some h hc
  rw [if_neg (by omega), if_pos hn.2, e]
  simp only [Option.bind_some]
  rw [if_neg (by omega), Int.tmod_eq_emod_of_nonneg hx.1]
  exact ⟨_, _, _, rfl, ⟨Int.emod_nonneg _ (by omega), Int.emod_lt_of_pos _ (by omega)⟩, hc'⟩
theorem l1Below_zero (b : List Int) (i h : Int) {n : Int} (hn : n ≤ 0) : spec_l1Below.f b i h n = some (0, i, h) := by
  unfold spec_l1Below.f
  rw [if_pos hn]

theorem l1Int_some {b : List Int} {i : Int} (h : Int) {l : List Int} (hl : 1 ≤ l.length ∧ l.length ≤ 256) (hc : curOk b i) : ∃ x i' h', spec_l1Int.f b i h l = some (x, i', h') ∧ x ∈ l ∧ curOk b i' := by
  unfold spec_l1Int.f
  obtain ⟨x, i', h', e, hx, hc'⟩ := l1Below_some h (n := (l.length : Int)) (by omega) hc
  rw [e]
  simp only [Option.bind_some]
  rw [if_pos hx.1, if_pos hx.2]
  refine ⟨_, _, _, rfl, ?_, hc'⟩
  unfold rd
  rw [getD_lt (by omega)]
  exact List.getElem_mem _

theorem big_eq (l : List Int) : laws_big.f l = some (decide ((l.length : Int) > 1048576)) := rfl
theorem curStart {l : List Int} (hl : l.length ≤ 1048576) : curOk l 0 := by unfold curOk; omega

theorem l17Any_some {b : List Int} {i : Int} (h : Int) (hc : curOk b i) : ∃ x y i' h', spec_l17Any.f b i h = some (x, y, i', h') ∧ curOk b i' := by
  unfold spec_l17Any.f
  obtain ⟨x, i1, h1, e1, _, c1⟩ := l1Below_some h (n := 40) (by omega) hc
  obtain ⟨y, i2, h2, e2, _, c2⟩ := l1Below_some h1 (n := 4) (by omega) c1
  obtain ⟨z, i3, h3, e3, _, c3⟩ := l1Below_some h2 (n := 10) (by omega) c2
  simp only [e1, e2, e3, Option.bind_some]
  by_cases q : z = 0
  · obtain ⟨u, i4, h4, e4, _, c4⟩ := l1Int_some h3 (l := [-1, 100000, 100001]) (by decide) c3
    simp only [if_pos q, e4, Option.bind_some]
    exact ⟨_, _, _, _, rfl, c4⟩
  · by_cases q1 : z = 1
    · obtain ⟨u, i4, h4, e4, _, c4⟩ := l1Int_some h3 (l := [-1, 1000, 1001]) (by decide) c3
      simp only [if_neg q, if_pos q1, e4, Option.bind_some]
      exact ⟨_, _, _, _, rfl, c4⟩
    · simp only [if_neg q, if_neg q1]
      exact ⟨_, _, _, _, rfl, c3⟩
theorem DrawHear_ev {l : List Int} (hl : l.length ≤ 1048576) : ∃ a b h, Ev (fun k => spec_DrawHear.f k l) (a, b, h) := by
  unfold spec_DrawHear.f
  obtain ⟨s, e0⟩ := l1New_ev hl
  obtain ⟨x, y, i1, h1, e1, c1⟩ := l17Any_some s (curStart hl)
  obtain ⟨u, i2, h2, e2, _, c2⟩ := l1Below_some h1 (n := 80) (by omega) c1
  obtain ⟨v, i3, h3, e3, _, c3⟩ := l1Below_some h2 (n := 80) (by omega) c2
  obtain ⟨w, i4, h4, e4, _, c4⟩ := l1Int_some h3 (l := [u, v, 6000, 7000, 100000, 100001, -1]) (by simp) c3
  refine ⟨x, y, w, Ev.bind e0 ?_⟩
  simp only [e1, e2, e3, e4, Option.bind_some]
  exact Ev.now _
theorem DrawMiss_ev {l : List Int} (hl : l.length ≤ 1048576) : ∃ a b h, Ev (fun k => spec_DrawMiss.f k l) (a, b, h) := by
  unfold spec_DrawMiss.f
  obtain ⟨a, b, h, e⟩ := DrawHear_ev hl
  exact ⟨a, b, h, Ev.bind e (Ev.now _)⟩
def hear (a b h : Int) : Int × Int × Bool := if radioOk a b ∧ (a ≤ h ∧ h ≤ 100000) then (h, 0, true) else (a, b, false)
theorem impl_Hear_eq (a b h : Int) : impl_Hear.f a b h = some (hear a b h) := by
  unfold impl_Hear.f hear
  simp only [impl_IsRadio_eq, inRange_eq, Option.bind_some]
  by_cases c0 : radioOk a b
  · by_cases c1 : a ≤ h ∧ h ≤ 100000 <;> simp [c0, c1]
  · simp [c0]
def miss (a b h : Int) : Int × Int × Bool := if radioOk a b ∧ (a ≤ h ∧ h ≤ 100000) ∧ radioOk a ((h - a) / 6) then (a, (h - a) / 6, true) else (a, b, false)
theorem impl_Miss_ev (a b h : Int) : Ev (fun k => impl_Miss.f k a b h) (miss a b h) := by
  unfold impl_Miss.f
  simp only [impl_IsRadio_eq, inRange_eq, Option.bind_some]
  have no : ¬ (radioOk a b ∧ (a ≤ h ∧ h ≤ 100000)) → Ev (fun k => impl_Miss.j0 k h true a b) (miss a b h) := by
    intro q
    rw [show miss a b h = (a, b, false) by unfold miss; rw [if_neg (fun x => q ⟨x.1, x.2.1⟩)]]
    refine Ev.step (f := fun _ => some (a, b, false)) (fun k => ?_) (Ev.now _)
    simp only [impl_Miss.j0, if_true]
  by_cases c0 : radioOk a b
  · refine evPos (decide_eq_true c0) ?_
    by_cases c1 : a ≤ h ∧ h ≤ 100000
    · rw [decide_eq_true c1]
      have c0' := c0
      unfold radioOk at c0'
      refine Ev.step (fun k => rfl) ?_
      simp only [impl_Miss.j0, Bool.not_true, Bool.false_eq_true, if_false, impl_IsRadio_eq, Option.bind_some]
      rw [wrapId (n := h - a) (by omega) (by omega), Int.tdiv_eq_ediv_of_nonneg (by omega), wrapId (n := (h - a) / 6) (by omega) (by omega)]
      by_cases c2 : radioOk a ((h - a) / 6)
      · rw [show miss a b h = (a, (h - a) / 6, true) by unfold miss; rw [if_pos ⟨c0, c1, c2⟩]]
        exact evPos (decide_eq_true c2) (Ev.now _)
      · rw [show miss a b h = (a, b, false) by unfold miss; rw [if_neg (fun x => c2 x.2.2)]]
        exact evNeg (by rw [decide_eq_true_eq]; exact c2) (Ev.now _)
    · rw [decide_eq_false c1]
      exact no (fun x => c1 x.2)
  · exact evNeg (by rw [decide_eq_true_eq]; exact c0) (no (fun x => c0 x.1))
theorem impl_IsAlarm_eq (a b : Int) : impl_IsAlarm.f a b = some (decide (radioOk a b) && decide (b ≥ 2)) := by
  unfold impl_IsAlarm.f
  simp only [impl_IsRadio_eq, Option.bind_some]
  by_cases c0 : radioOk a b <;> simp [c0]
theorem impl_AlarmHour_eq (a b : Int) : impl_AlarmHour.f a b = some (if radioOk a b then a + 12 else -1) := by
  unfold impl_AlarmHour.f
  simp only [impl_IsRadio_eq, Option.bind_some]
  by_cases c0 : radioOk a b
  · have c0' := c0
    unfold radioOk at c0'
    rw [wrapId (n := a + 12) (by omega) (by omega)]
    simp [c0]
  · simp [c0]
theorem j1_ev (a b : Int) : Ev (fun k => laws_FnRadio.j1 k false a b) true := by
  refine Ev.step (f := fun _ => some true) (fun k => ?_) (Ev.now _)
  simp only [laws_FnRadio.j1, Bool.false_eq_true, if_false, impl_AlarmHour_eq, impl_IsRadio_eq, Option.bind_some]
  by_cases c0 : radioOk a b
  · have c0' := c0
    unfold radioOk at c0'
    have : a + 12 ≥ 0 := by omega
    simp [c0, this]
  · simp [c0]
theorem j0_ev {l : List Int} (hl : l.length ≤ 1048576) : Ev (fun k => laws_FnRadio.j0 k l false) true := by
  refine Ev.step (fun k => rfl) ?_
  simp only [laws_FnRadio.j0, Bool.false_eq_true, if_false]
  obtain ⟨a, b, h, e⟩ := DrawMiss_ev hl
  refine Ev.bind e (Ev.bind (impl_Miss_ev a b h) ?_)
  by_cases c : radioOk a b ∧ (a ≤ h ∧ h ≤ 100000) ∧ radioOk a ((h - a) / 6)
  · rw [show miss a b h = (a, (h - a) / 6, true) by unfold miss; rw [if_pos c]]
    refine evPos rfl (evPos rfl ?_)
    simp only [impl_IsAlarm_eq, impl_AlarmHour_eq, Option.bind_some, c.1, c.2.2, if_true, decide_true, Bool.true_and]
    have e6 : decide ((h - a) / 6 ≥ 2) = decide (h ≥ a + 12) := by
      rw [decide_eq_decide]
      omega
    rw [e6, bne_self_eq_false]
    exact evNeg (by decide) (j1_ev a b)
  · rw [show miss a b h = (a, b, false) by unfold miss; rw [if_neg c]]
    refine evNeg (by simp) ?_
    simp only [beq_self_eq_true, Bool.not_true, Bool.or_self]
    exact j1_ev a b
def FnRadio.Claim : Prop := ∀ (l0 : List (Int)), l0.length ≤ maxLen → (∀ x ∈ l0, (Lit.int .u8 x).wf = true) → ∃ k, laws_FnRadio.f k l0 = some true
theorem FnRadio : FnRadio.Claim := by
  intro l _ _
  apply Ev.rounds
  unfold laws_FnRadio.f
  simp only [big_eq, Option.bind_some]
  by_cases hb : (l.length : Int) > 1048576
  · exact evPos (decide_eq_true hb) (Ev.now _)
  refine evNeg (by rw [decide_eq_true_eq]; exact hb) ?_
  have hl : l.length ≤ 1048576 := by omega
  obtain ⟨a, b, h, e⟩ := DrawHear_ev hl
  refine Ev.bind e ?_
  simp only [impl_Hear_eq, Option.bind_some]
  by_cases c : radioOk a b ∧ (a ≤ h ∧ h ≤ 100000)
  · rw [show hear a b h = (h, 0, true) by unfold hear; rw [if_pos c]]
    refine evPos rfl (evPos rfl (evPos rfl ?_))
    simp only [impl_IsAlarm_eq, Option.bind_some]
    exact evNeg (by simp) (j0_ev hl)
  · rw [show hear a b h = (a, b, false) by unfold hear; rw [if_neg c]]
    refine evNeg (by simp) ?_
    simp only [beq_self_eq_true, Bool.not_true, Bool.or_self]
    exact j0_ev hl
end Go.Proofs.Ytkdclkbgejbgjac.Pure
