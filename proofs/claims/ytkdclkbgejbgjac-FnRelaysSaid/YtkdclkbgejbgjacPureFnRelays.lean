/- The law Relays: whatever the bytes of the draw: what is spared is enough for the trips, and no relay is worse than going alone: the law's Go function answers true. No condition beyond the kinds of the numbers. -/
import Derived.Test.YtkdclkbgejbgjacPFnRelaysx3
import Derived.Test.YtkdclkbgejbgjacAid
import Derived.Laws.BitsLemmas
namespace Go.Proofs.Ytkdclkbgejbgjac.Pure
open Go.RowKit Go.Proofs.Ytkdclkbgejbgjac.PFnRelays Go.Proofs.Ytkdclkbgejbgjac.Aid Go.Proofs.YtkdclkbgejbgjacW.PrintWords Go.Proofs.YtkdclkbgejbgjacW.PrintLast Go.Proofs.YtkdclkbgejbgjacW.PrintMore
set_option linter.unusedVariables false
set_option linter.unusedSimpArgs false
theorem inRange_eq (a b c : Int) : impl_InRange.f a b c = some (decide (b ≤ a ∧ a ≤ c)) := by
  unfold impl_InRange.f
  by_cases h : b ≤ a
  · rw [if_pos h]
    simp [h]
  · rw [if_neg h]
    simp [h]

def loadsOk (a b : Int) : Prop := (0 ≤ a ∧ a ≤ 10000) ∧ (1 ≤ b ∧ b ≤ 100)
instance (a b : Int) : Decidable (loadsOk a b) := inferInstanceAs (Decidable (_ ∧ _))
theorem impl_areLoads_eq (a b : Int) : impl_areLoads.f a b = some (decide (loadsOk a b)) := by
  unfold impl_areLoads.f loadsOk
  simp only [inRange_eq, Option.bind_some]
  by_cases h0 : 0 ≤ a ∧ a ≤ 10000 <;> simp [h0]
/-- What one can leave. -/
def spare (a b d : Int) : Int := if loadsOk a b ∧ (0 ≤ d ∧ d ≤ 1000) then (if a - 2 * b * d < -1 then -1 else a - 2 * b * d) else -1
theorem prodBound {b d : Int} (hb : 1 ≤ b ∧ b ≤ 100) (hd : 0 ≤ d ∧ d ≤ 1000) : 0 ≤ 2 * b * d ∧ 2 * b * d ≤ 200000 := by
  have h0 : 0 ≤ b * d := Int.mul_nonneg (by omega) (by omega)
  have h1 : b * d ≤ 100 * 1000 := Int.mul_le_mul (by omega) (by omega) (by omega) (by omega)
  have e : 2 * b * d = 2 * (b * d) := Int.mul_assoc 2 b d
  omega
theorem impl_SpareAt_eq (a b d : Int) : impl_SpareAt.f a b d = some (spare a b d) := by
  unfold impl_SpareAt.f spare
  simp only [impl_areLoads_eq, inRange_eq, Option.bind_some]
  by_cases h0 : loadsOk a b
  · by_cases h1 : 0 ≤ d ∧ d ≤ 1000
    · have h0' := h0
      unfold loadsOk at h0'
      have pb := prodBound h0'.2 h1
      rw [wrapId (n := 2 * b) (by omega) (by omega), wrapId (n := 2 * b * d) (by omega) (by omega), wrapId (n := a - 2 * b * d) (by omega) (by omega)]
      simp [h0, h1, mx]
    · simp [h0, h1]
  · simp [h0]

/-- How many trips are needed. -/
def trips (a b d f : Int) : Int := if spare a b d < 0 ∨ ¬ (0 ≤ f ∧ f ≤ 10000) ∨ (spare a b d = 0 ∧ f ≠ 0) then -1 else if f = 0 then 0 else (f + spare a b d - 1) / spare a b d
theorem spare_le (a b d : Int) : -1 ≤ spare a b d ∧ spare a b d ≤ 10000 := by
  unfold spare
  split
  · rename_i h
    obtain ⟨h0, h1⟩ := h
    unfold loadsOk at h0
    have pb := prodBound h0.2 h1
    split <;> omega
  · omega
theorem ceilBound {f s : Int} (hf : 0 ≤ f ∧ f ≤ 10000) (hs : 1 ≤ s ∧ s ≤ 10000) : 0 ≤ (f + s - 1) / s ∧ (f + s - 1) / s ≤ 20000 := by
  have h0 : 0 ≤ (f + s - 1) / s := Int.ediv_nonneg (by omega) (by omega)
  have h1 : (f + s - 1) / s ≤ f + s - 1 := Int.ediv_le_self _ (by omega)
  omega
theorem impl_TripsFor_eq (k : Nat) (a b d f : Int) : impl_TripsFor.f (k + 1) a b d f = some (trips a b d f) := by
  have hs := spare_le a b d
  unfold impl_TripsFor.f trips
  simp only [impl_SpareAt_eq, inRange_eq, Option.bind_some, impl_TripsFor.j0]
  by_cases c0 : spare a b d < 0
  · simp [c0]
  · by_cases c1 : 0 ≤ f ∧ f ≤ 10000
    · by_cases c2 : spare a b d = 0
      · by_cases c3 : f = 0
        · simp [c2, c3]
        · simp [c2, c3]
      · by_cases c3 : f = 0
        · simp [c0, c2, c3]
        · have cb := ceilBound c1 (s := spare a b d) (by omega)
          rw [wrapId (n := f + spare a b d) (by omega) (by omega), wrapId (n := f + spare a b d - 1) (by omega) (by omega), Int.tdiv_eq_ediv_of_nonneg (by omega), wrapId (n := (f + spare a b d - 1) / spare a b d) (by omega) (by omega)]
          simp [c0, c1, c2, c3]
    · simp [c0, c1]

def worksP (load need trips d e : Int) : Prop := 0 ≤ spare load need e ∧ need * e ≤ trips * spare load need e ∧ need * (d - e) + (if need * e - (trips * spare load need e - need * e) < 0 then 0 else need * e - (trips * spare load need e - need * e)) ≤ load - need * (d - e)
instance (load need trips d e : Int) : Decidable (worksP load need trips d e) := inferInstanceAs (Decidable (_ ∧ _ ∧ _))
/-- Does one of n depots, from the one at e on, work? -/
def anyE (load need trips d : Int) : Int → Nat → Bool
  | _, 0 => false
  | e, n + 1 => decide (worksP load need trips d e) || anyE load need trips d (e + 1) n
/-- The farthest of n days that works; 0 if none does. -/
def farDown (load need trips : Int) : Nat → Int
  | 0 => 0
  | n + 1 => if anyE load need trips ((n + 1 : Nat) : Int) 0 (n + 2) = true then ((n + 1 : Nat) : Int) else farDown load need trips n
def farOk (load need trips : Int) : Prop := (0 ≤ trips ∧ trips ≤ 20) ∧ (0 ≤ load ∧ load ≤ 1000) ∧ (1 ≤ need ∧ need ≤ 100)
instance (load need trips : Int) : Decidable (farOk load need trips) := inferInstanceAs (Decidable (_ ∧ _ ∧ _))
def farthest (load need trips : Int) : Int := if farOk load need trips then farDown load need trips (load / need).toNat else -1
theorem prodLe {need load d e : Int} (hn : 1 ≤ need) (he : 0 ≤ e) (hed : e ≤ d) (hd : d ≤ load / need) (h0 : 0 ≤ load) : 0 ≤ need * e ∧ need * e ≤ load ∧ 0 ≤ need * (d - e) ∧ need * (d - e) ≤ load ∧ d ≤ load := by
  have a0 : 0 ≤ need * e := Int.mul_nonneg (by omega) he
  have a1 : 0 ≤ need * (d - e) := Int.mul_nonneg (by omega) (by omega)
  have a2 : need * d ≤ load := by
    have x : need * d ≤ need * (load / need) := Int.mul_le_mul_of_nonneg_left hd (by omega)
    have y : need * (load / need) ≤ load := Int.mul_ediv_self_le (by omega)
    omega
  have a3 : need * d = need * (d - e) + need * e := by rw [← Int.mul_add]; congr 1; omega
  have a4 : load / need ≤ load := Int.ediv_le_self _ h0
  omega
theorem tripsLe {trips s : Int} (ht : 0 ≤ trips ∧ trips ≤ 20) (hs : -1 ≤ s ∧ s ≤ 10000) : -20 ≤ trips * s ∧ trips * s ≤ 200000 := by
  rcases Int.lt_or_le s 0 with h | h
  · have : s = -1 := by omega
    subst this
    omega
  · have x : 0 ≤ trips * s := Int.mul_nonneg ht.1 h
    have y : trips * s ≤ 20 * 10000 := Int.mul_le_mul ht.2 hs.2 h (by omega)
    omega
theorem farSpare_le (a b d : Int) : -1 ≤ spare a b d ∧ spare a b d ≤ 10000 := by
  unfold spare
  split
  · rename_i h
    obtain ⟨h0, h1⟩ := h
    unfold loadsOk at h0
    have pb := prodBound h0.2 h1
    split <;> omega
  · omega

theorem impl_far_step {load need trips : Int} (ok : farOk load need trips) {d e : Int} (he : 0 ≤ e) (hed : e ≤ d) (hd : d ≤ load / need) (k : Nat) :
    impl_FarthestBy.l1 (k + 1) load need trips d e = if worksP load need trips d e then some d else impl_FarthestBy.l1 k load need trips d (e + 1) := by
  obtain ⟨ht, hl, hn⟩ := ok
  have pl := prodLe hn.1 he hed hd hl.1
  have fs := farSpare_le load need e
  have tl := tripsLe ht fs
  simp only [impl_FarthestBy.l1, impl_SpareAt_eq, Option.bind_some]
  rw [if_pos hed, wrapId (n := trips * spare load need e) (by omega) (by omega), wrapId (n := need * e) (by omega) (by omega), wrapId (n := d - e) (by omega) (by omega), wrapId (n := need * (d - e)) (by omega) (by omega), wrapId (n := load - need * (d - e)) (by omega) (by omega),
    wrapId (n := trips * spare load need e - need * e) (by omega) (by omega), wrapId (n := need * e - (trips * spare load need e - need * e)) (by omega) (by omega), wrapId (n := e + 1) (by omega) (by omega)]
  have em : mx (need * e - (trips * spare load need e - need * e)) 0 = (if need * e - (trips * spare load need e - need * e) < 0 then 0 else need * e - (trips * spare load need e - need * e)) := rfl
  rw [em]
  have eb : wrap64 (need * (d - e) + (if need * e - (trips * spare load need e - need * e) < 0 then 0 else need * e - (trips * spare load need e - need * e))) = need * (d - e) + (if need * e - (trips * spare load need e - need * e) < 0 then 0 else need * e - (trips * spare load need e - need * e)) := by
    refine wrapId ?_ ?_
    · split <;> omega
    · split <;> omega
  rw [eb]
  by_cases c0 : 0 ≤ spare load need e
  · by_cases c1 : need * e ≤ trips * spare load need e
    · by_cases c2 : need * (d - e) + (if need * e - (trips * spare load need e - need * e) < 0 then 0 else need * e - (trips * spare load need e - need * e)) ≤ load - need * (d - e)
      · have w : worksP load need trips d e := ⟨c0, c1, c2⟩
        rw [if_pos w, if_pos c0, if_pos c1, if_pos c2]
      · have w : ¬ worksP load need trips d e := fun x => c2 x.2.2
        rw [if_neg w, if_pos c0, if_pos c1, if_neg c2]
    · have w : ¬ worksP load need trips d e := fun x => c1 x.2.1
      rw [if_neg w, if_pos c0, if_neg c1]
  · have w : ¬ worksP load need trips d e := fun x => c0 x.1
    rw [if_neg w, if_neg c0]
theorem impl_far_in {load need trips : Int} (ok : farOk load need trips) {d : Int} (hd0 : 1 ≤ d) (hd : d ≤ load / need) (r : Int) (hr : Ev (fun k => impl_FarthestBy.l0 k load need trips (d - 1)) r) :
    ∀ (n : Nat) (e : Int), 0 ≤ e → e + n = d + 1 → Ev (fun k => impl_FarthestBy.l1 k load need trips d e) (if anyE load need trips d e n = true then d else r) := by
  have pl := prodLe ok.2.2.1 (show (0 : Int) ≤ 0 by omega) (show 0 ≤ d by omega) hd ok.2.1.1
  have hl := ok.2.1
  intro n
  induction n with
  | zero =>
    intro e he hs
    simp only [anyE, Bool.false_eq_true, if_false]
    refine Ev.step (fun k => ?_) hr
    simp only [impl_FarthestBy.l1]
    rw [if_neg (by omega), wrapId (n := d - 1) (by omega) (by omega)]
  | succ n ih =>
    intro e he hs
    refine Ev.step (fun k => impl_far_step ok he (by omega) hd k) ?_
    by_cases c : worksP load need trips d e
    · simp only [anyE, c, decide_true, Bool.true_or, if_true]
      exact Ev.now _
    · simp only [anyE, c, decide_false, Bool.false_or, if_false]
      exact ih (e + 1) (by omega) (by omega)
theorem impl_far_l0 {load need trips : Int} (ok : farOk load need trips) : ∀ (n : Nat), (n : Int) ≤ load / need → Ev (fun k => impl_FarthestBy.l0 k load need trips (n : Int)) (farDown load need trips n)
  | 0, _ => by
    refine Ev.step (f := fun _ => some 0) (fun k => ?_) (Ev.now _)
    simp only [impl_FarthestBy.l0]
    rw [if_neg (by omega)]
  | n + 1, h => by
    have ih := impl_far_l0 ok n (by omega)
    have := impl_far_in ok (d := ((n + 1 : Nat) : Int)) (by omega) h _ (by rw [show (((n + 1 : Nat) : Int) - 1) = (n : Int) by omega]; exact ih) (n + 2) 0 (by omega) (by omega)
    refine Ev.step (fun k => ?_) this
    simp only [impl_FarthestBy.l0]
    rw [if_pos (by omega)]
theorem impl_FarthestBy_ev (load need trips : Int) : Ev (fun k => impl_FarthestBy.f k load need trips) (farthest load need trips) := by
  have no : ¬ farOk load need trips → Ev (fun k => impl_FarthestBy.j0 k load need trips true) (farthest load need trips) := by
    intro q
    rw [show farthest load need trips = -1 by unfold farthest; rw [if_neg q]]
    refine Ev.step (f := fun _ => some (-1)) (fun k => ?_) (Ev.now _)
    simp only [impl_FarthestBy.j0, if_true]
  unfold impl_FarthestBy.f
  simp only [inRange_eq, Option.bind_some]
  by_cases c0 : 0 ≤ trips ∧ trips ≤ 20
  · refine evPos (decide_eq_true c0) ?_
    by_cases c1 : 0 ≤ load ∧ load ≤ 1000
    · refine evPos (decide_eq_true c1) ?_
      by_cases c2 : 1 ≤ need ∧ need ≤ 100
      · have ok : farOk load need trips := ⟨c0, c1, c2⟩
        rw [decide_eq_true c2, show farthest load need trips = farDown load need trips (load / need).toNat by unfold farthest; rw [if_pos ok]]
        have q0 : 0 ≤ load / need := Int.ediv_nonneg c1.1 (by omega)
        have q1 : load / need ≤ load := Int.ediv_le_self _ c1.1
        have := impl_far_l0 ok (load / need).toNat (by omega)
        rw [show (((load / need).toNat : Nat) : Int) = load / need by omega] at this
        refine Ev.step (fun k => ?_) this
        simp only [impl_FarthestBy.j0, Bool.not_true, Bool.false_eq_true, if_false]
        rw [if_neg (by omega), Int.tdiv_eq_ediv_of_nonneg c1.1, wrapId (n := load / need) (by omega) (by omega)]
      · rw [decide_eq_false c2]
        exact no (fun x => c2 x.2.2)
    · exact evNeg (by rw [decide_eq_true_eq]; exact c1) (no (fun x => c1 x.2.1))
  · exact evNeg (by rw [decide_eq_true_eq]; exact c0) (no (fun x => c0 x.1))

/-- The cursor over the bytes of a draw stands within them. -/
def curOk (b : List Int) (i : Int) : Prop := 0 ≤ i ∧ i ≤ (b.length : Int) ∧ b.length ≤ 1048576
theorem and255 (x : Int) : 0 ≤ Go.bits .and .i64 x 255 ∧ Go.bits .and .i64 x 255 ≤ 255 := by
  have h : (BitVec.ofInt 64 x &&& BitVec.ofInt 64 255).toNat ≤ 255 := by
    rw [BitVec.toNat_and]
    exact Nat.and_le_right
  have e : Go.bits .and .i64 x 255 = IntKind.i64.wrap ((BitVec.ofInt 64 x &&& BitVec.ofInt 64 255).toNat : Int) := rfl
  rw [e, IntKind.wrap_i64]
  omega
theorem l1New_ev {l : List Int} (hl : l.length ≤ 1048576) : ∃ h, Ev (fun k => spec_l1New.f k l) (l, 0, h) := by
  have key : ∀ (d : Nat) (i : Nat) (h : Int), (l.length : Int) - i ≤ d → ∃ r, Ev (fun k => spec_l1New.l0 k l h (i : Int)) (l, 0, r) := by
    intro d
    induction d with
    | zero =>
      intro i h hd
      refine ⟨h, Ev.step (f := fun _ => some (l, 0, h)) (fun k => ?_) (Ev.now _)⟩
      simp only [spec_l1New.l0]
      rw [if_neg (by omega)]
    | succ d ih =>
      intro i h hd
      by_cases c : (i : Int) < (l.length : Int)
      · by_cases c2 : (i : Int) < 4000
        · obtain ⟨r, hr⟩ := ih (i + 1) (Go.bits .and .i64 (wrap64 ((wrap64 ((wrap64 (h * 137)) + (wrap64 (rd l (i : Int))))) + 11)) 1073741823) (by omega)
          refine ⟨r, Ev.step (fun k => ?_) hr⟩
          simp only [spec_l1New.l0]
          rw [if_pos c, if_pos c2, if_pos (by omega), wrapSucc (by omega)]
        · refine ⟨h, Ev.step (f := fun _ => some (l, 0, h)) (fun k => ?_) (Ev.now _)⟩
          simp only [spec_l1New.l0]
          rw [if_pos c, if_neg c2]
      · refine ⟨h, Ev.step (f := fun _ => some (l, 0, h)) (fun k => ?_) (Ev.now _)⟩
        simp only [spec_l1New.l0]
        rw [if_neg c]
  obtain ⟨r, hr⟩ := key l.length 0 (wrap64 (193017 + (l.length : Int))) (by omega)
  refine ⟨r, ?_⟩
  unfold spec_l1New.f
  exact hr
theorem l1Byte_some {b : List Int} {i : Int} (h : Int) (hc : curOk b i) : ∃ x i' h', spec_l1Byte.f b i h = some (x, i', h') ∧ (0 ≤ x ∧ x ≤ 255) ∧ curOk b i' := by
  unfold curOk at hc
  unfold spec_l1Byte.f
  by_cases c : i < (b.length : Int)
  · rw [if_pos c, if_pos hc.1]
    refine ⟨_, _, _, rfl, and255 _, ?_⟩
    rw [wrapId (n := i + 1) (by omega) (by omega)]
    unfold curOk
    omega
  · rw [if_neg c]
    exact ⟨_, _, _, rfl, and255 _, hc⟩
theorem l1Below_some {b : List Int} {i : Int} (h : Int) {n : Int} (hn : 1 ≤ n ∧ n ≤ 256) (hc : curOk b i) : ∃ x i' h', spec_l1Below.f b i h n = some (x, i', h') ∧ (0 ≤ x ∧ x < n) ∧ curOk b i' := by
  unfold spec_l1Below.f
  obtain ⟨x, i', h', e, hx, hc'⟩ := l1Byte_some h hc
  rw [if_neg (by omega), if_pos hn.2, e]
  simp only [Option.bind_some]
  rw [if_neg (by omega), Int.tmod_eq_emod_of_nonneg hx.1]
  exact ⟨_, _, _, rfl, ⟨Int.emod_nonneg _ (by omega), Int.emod_lt_of_pos _ (by omega)⟩, hc'⟩
theorem l1Below_zero (b : List Int) (i h : Int) {n : Int} (hn : n ≤ 0) : spec_l1Below.f b i h n = some (0, i, h) := by
  unfold spec_l1Below.f
  rw [if_pos hn]

theorem l1Int_some {b : List Int} {i : Int} (h : Int) {l : List Int} (hl : 1 ≤ l.length ∧ l.length ≤ 256) (hc : curOk b i) : ∃ x i' h', spec_l1Int.f b i h l = some (x, i', h') ∧ x ∈ l ∧ curOk b i' := by
  unfold spec_l1Int.f
  obtain ⟨x, i', h', e, hx, hc'⟩ := l1Below_some h (n := (l.length : Int)) (by omega) hc
  rw [e]
  simp only [Option.bind_some]
  rw [if_pos hx.1, if_pos hx.2]
  refine ⟨_, _, _, rfl, ?_, hc'⟩
  unfold rd
  rw [getD_lt (by omega)]
  exact List.getElem_mem _

theorem big_eq (l : List Int) : laws_big.f l = some (decide ((l.length : Int) > 1048576)) := rfl
theorem curStart {l : List Int} (hl : l.length ≤ 1048576) : curOk l 0 := by unfold curOk; omega

theorem l13Load_some {b : List Int} {i : Int} (h : Int) (hc : curOk b i) : ∃ x i' h', spec_l13Load.f b i h = some (x, i', h') ∧ curOk b i' := by
  unfold spec_l13Load.f
  obtain ⟨u, i4, h4, e4, _, c4⟩ := l1Int_some h (l := [0, 10, 24, 40, 97, 120, 10000, 10001, -1]) (by decide) hc
  simp only [e4, Option.bind_some]
  exact ⟨_, _, _, rfl, c4⟩
theorem l13Need_some {b : List Int} {i : Int} (h : Int) (hc : curOk b i) : ∃ x i' h', spec_l13Need.f b i h = some (x, i', h') ∧ curOk b i' := by
  unfold spec_l13Need.f
  obtain ⟨u, i4, h4, e4, _, c4⟩ := l1Int_some h (l := [1, 2, 3, 5, 100, 101, 0]) (by decide) hc
  simp only [e4, Option.bind_some]
  exact ⟨_, _, _, rfl, c4⟩
theorem DrawOutDays_ev {l : List Int} (hl : l.length ≤ 1048576) : ∃ a b, Ev (fun k => spec_DrawOutDays.f k l) (a, b) := by
  unfold spec_DrawOutDays.f
  obtain ⟨s, e0⟩ := l1New_ev hl
  obtain ⟨x, i1, h1, e1, c1⟩ := l13Load_some s (curStart hl)
  obtain ⟨y, i2, h2, e2, c2⟩ := l13Need_some h1 c1
  refine ⟨x, y, Ev.bind (a := (l, 0, s)) e0 ?_⟩
  simp only [e1, e2, Option.bind_some]
  exact Ev.now _
theorem DrawSpareAt_ev {l : List Int} (hl : l.length ≤ 1048576) : ∃ a b c, Ev (fun k => spec_DrawSpareAt.f k l) (a, b, c) := by
  unfold spec_DrawSpareAt.f
  obtain ⟨a, b, e⟩ := DrawOutDays_ev hl
  obtain ⟨s, e0⟩ := l1New_ev hl
  obtain ⟨w, i4, h4, e4, m4, c4⟩ := l1Int_some s (l := [0, 1, 2, 5, 20, 1000, 1001, -1]) (by decide) (curStart hl)
  refine ⟨a, b, w, Ev.bind e (Ev.bind (a := (l, 0, s)) e0 ?_)⟩
  simp only [e4, Option.bind_some]
  exact Ev.now _
theorem DrawTripsFor_ev {l : List Int} (hl : l.length ≤ 1048576) : ∃ a b c d, Ev (fun k => spec_DrawTripsFor.f k l) (a, b, c, d) := by
  unfold spec_DrawTripsFor.f
  obtain ⟨a, b, c, e⟩ := DrawSpareAt_ev hl
  obtain ⟨s, e0⟩ := l1New_ev hl
  obtain ⟨w, i4, h4, e4, m4, c4⟩ := l1Int_some s (l := [0, 1, 30, 100, 10000, 10001, -1]) (by decide) (curStart hl)
  refine ⟨a, b, c, w, Ev.bind e (Ev.bind (a := (l, 0, s)) e0 ?_)⟩
  simp only [e4, Option.bind_some]
  exact Ev.now _
theorem DrawFarthestBy_ev {l : List Int} (hl : l.length ≤ 1048576) : ∃ a b c, Ev (fun k => spec_DrawFarthestBy.f k l) (a, b, c) ∧ (-1 ≤ c ∧ c ≤ 21) := by
  unfold spec_DrawFarthestBy.f
  obtain ⟨s, e0⟩ := l1New_ev hl
  obtain ⟨x, i1, h1, e1, m1, c1⟩ := l1Int_some s (l := [0, 10, 24, 40, 97, 10001]) (by decide) (curStart hl)
  obtain ⟨y, i2, h2, e2, c2⟩ := l13Need_some h1 c1
  obtain ⟨w, i4, h4, e4, m4, c4⟩ := l1Int_some h2 (l := [0, 1, 2, 5, 20, 21, -1]) (by decide) c2
  refine ⟨x, y, w, Ev.bind (a := (l, 0, s)) e0 ?_, ?_⟩
  · simp only [e1, e2, e4, Option.bind_some]
    exact Ev.now _
  · simp only [List.mem_cons, List.not_mem_nil, or_false] at m4
    omega
theorem DrawFoodEaten_ev {l : List Int} (hl : l.length ≤ 1048576) : ∃ a b, Ev (fun k => spec_DrawFoodEaten.f k l) (a, b) := by
  unfold spec_DrawFoodEaten.f
  obtain ⟨a, b, c, e⟩ := DrawSpareAt_ev hl
  exact ⟨b, c, Ev.bind (a := (a, b, c)) e (Ev.now _)⟩
def outDays (a b : Int) : Int := if loadsOk a b then a / (2 * b) else 0
theorem impl_OutDays_eq (a b : Int) : impl_OutDays.f a b = some (outDays a b) := by
  unfold impl_OutDays.f outDays
  simp only [impl_areLoads_eq, Option.bind_some]
  by_cases c : loadsOk a b
  · have c' := c
    unfold loadsOk at c'
    have q0 := Int.ediv_nonneg c'.1.1 (show 0 ≤ 2 * b by omega)
    have q1 := Int.ediv_le_self (2 * b) c'.1.1
    rw [wrapId (n := 2 * b) (by omega) (by omega), Int.tdiv_eq_ediv_of_nonneg c'.1.1, wrapId (n := a / (2 * b)) (by omega) (by omega)]
    simp only [c, decide_true, if_true]
    rw [if_neg (by omega)]
  · simp [c]
theorem outDays_le (a b : Int) : 0 ≤ outDays a b ∧ outDays a b ≤ 10000 := by
  unfold outDays
  split
  · rename_i c
    unfold loadsOk at c
    have q0 := Int.ediv_nonneg c.1.1 (show 0 ≤ 2 * b by omega)
    have q1 := Int.ediv_le_self (2 * b) c.1.1
    omega
  · omega
theorem impl_FoodEaten_eq (a b : Int) : ∃ r, impl_FoodEaten.f a b = some r ∧ 0 ≤ r := by
  unfold impl_FoodEaten.f
  simp only [inRange_eq, Option.bind_some]
  by_cases c0 : 1 ≤ a ∧ a ≤ 100
  · by_cases c1 : 0 ≤ b ∧ b ≤ 1000
    · have x : 0 ≤ a * b := Int.mul_nonneg (by omega) c1.1
      have y : a * b ≤ 100 * 1000 := Int.mul_le_mul c0.2 c1.2 c1.1 (by omega)
      rw [wrapId (n := a * b) (by omega) (by omega)]
      refine ⟨a * b, ?_, x⟩
      simp [c0, c1]
    · exact ⟨0, by simp [c0, c1], by omega⟩
  · exact ⟨0, by simp [c0], by omega⟩
theorem works_out {load need trips d : Int} (ok : farOk load need trips) (hd0 : 0 ≤ d) (hd : d ≤ load / (2 * need)) : worksP load need trips d 0 := by
  obtain ⟨ht, hl, hn⟩ := ok
  have es : spare load need 0 = load := by
    unfold spare
    rw [if_pos ⟨⟨by omega, by omega⟩, by omega⟩]
    simp only [Int.mul_zero, Int.sub_zero]
    rw [if_neg (by omega)]
  have x : 2 * need * d ≤ load := by
    have a : 2 * need * d ≤ 2 * need * (load / (2 * need)) := Int.mul_le_mul_of_nonneg_left hd (by omega)
    have b : 2 * need * (load / (2 * need)) ≤ load := Int.mul_ediv_self_le (by omega)
    omega
  have y : 2 * need * d = 2 * (need * d) := Int.mul_assoc 2 need d
  have z : 0 ≤ trips * load := Int.mul_nonneg ht.1 hl.1
  unfold worksP
  rw [es]
  simp only [Int.mul_zero, Int.sub_zero, Int.zero_sub]
  refine ⟨hl.1, z, ?_⟩
  split <;> omega
theorem works_more {load need trips d e : Int} (w : worksP load need (trips - 1) d e) : worksP load need trips d e := by
  obtain ⟨w0, w1, w2⟩ := w
  have x : (trips - 1) * spare load need e = trips * spare load need e - spare load need e := by rw [Int.sub_mul, Int.one_mul]
  rw [x] at w1 w2
  refine ⟨w0, by omega, ?_⟩
  split
  · split at w2 <;> omega
  · split at w2 <;> omega
theorem anyE_of {load need trips d : Int} : ∀ (n : Nat) (e x : Int), e ≤ x → x < e + n → worksP load need trips d x → anyE load need trips d e n = true
  | 0, e, x, h0, h1, _ => by omega
  | n + 1, e, x, h0, h1, w => by
    simp only [anyE, Bool.or_eq_true, decide_eq_true_eq]
    by_cases c : x = e
    · subst c
      exact .inl w
    · exact .inr (anyE_of n (e + 1) x (by omega) (by omega) w)
theorem anyE_more {load need trips d : Int} : ∀ (n : Nat) (e : Int), anyE load need (trips - 1) d e n = true → anyE load need trips d e n = true
  | 0, e, h => by simp [anyE] at h
  | n + 1, e, h => by
    simp only [anyE, Bool.or_eq_true, decide_eq_true_eq] at h ⊢
    rcases h with h | h
    · exact .inl (works_more h)
    · exact .inr (anyE_more n (e + 1) h)
theorem farDown_ge {load need trips : Int} (d : Nat) (h : d = 0 ∨ anyE load need trips (d : Int) 0 (d + 1) = true) : ∀ n : Nat, d ≤ n → (d : Int) ≤ farDown load need trips n
  | 0, hn => by
    obtain rfl : d = 0 := by omega
    simp [farDown]
  | n + 1, hn => by
    simp only [farDown]
    by_cases c : d = n + 1
    · subst c
      rcases h with h | h
      · omega
      · rw [if_pos h]
        exact Int.le_refl _
    · have := farDown_ge d h n (by omega)
      split <;> omega
theorem farDown_mono {load need trips : Int} : ∀ n : Nat, farDown load need (trips - 1) n ≤ farDown load need trips n
  | 0 => Int.le_refl _
  | n + 1 => by
    have ih := farDown_mono (load := load) (need := need) (trips := trips) n
    have up : ∀ m : Nat, farDown load need (trips - 1) m ≤ (m : Int) := by
      intro m
      induction m with
      | zero => simp [farDown]
      | succ m im =>
        simp only [farDown]
        split <;> omega
    have := up n
    simp only [farDown]
    by_cases c : anyE load need (trips - 1) ((n + 1 : Nat) : Int) 0 (n + 2) = true
    · rw [if_pos c, if_pos (anyE_more _ _ c)]
      exact Int.le_refl _
    · rw [if_neg c]
      split <;> omega
theorem far_out {g h q : Int} (hf : 0 ≤ farthest g h q) : ¬ farthest g h q < outDays g h := by
  unfold farthest at hf ⊢
  by_cases ok : farOk g h q
  · rw [if_pos ok]
    have ok' := ok
    obtain ⟨ht, hl, hn⟩ := ok'
    have lo : loadsOk g h := ⟨by omega, hn⟩
    unfold outDays
    rw [if_pos lo]
    have q0 := Int.ediv_nonneg hl.1 (show 0 ≤ 2 * h by omega)
    have q1 : g / (2 * h) ≤ g / h := by
      have a : h * (g / (2 * h)) ≤ g := by
        have b : 2 * h * (g / (2 * h)) ≤ g := Int.mul_ediv_self_le (by omega)
        have c : 2 * h * (g / (2 * h)) = 2 * (h * (g / (2 * h))) := Int.mul_assoc _ _ _
        have d : 0 ≤ h * (g / (2 * h)) := Int.mul_nonneg (by omega) q0
        omega
      exact (Int.le_ediv_iff_mul_le (by omega)).2 (by rw [Int.mul_comm]; exact a)
    have q2 := Int.ediv_nonneg hl.1 (show 0 ≤ h by omega)
    have := farDown_ge (load := g) (need := h) (trips := q) (g / (2 * h)).toNat (.inr (anyE_of _ 0 0 (by omega) (by omega) (works_out ok (by omega) (by omega)))) (g / h).toNat (by omega)
    omega
  · rw [if_neg ok] at hf
    omega
theorem far_more {g h q : Int} (hf : 0 ≤ farthest g h q) (hq : 0 < q) : decide (farthest g h q < farthest g h (q - 1)) = false := by
  rw [decide_eq_false_iff_not]
  unfold farthest at hf ⊢
  by_cases ok : farOk g h q
  · rw [if_pos ok]
    split
    · have := farDown_mono (load := g) (need := h) (trips := q) (g / h).toNat
      omega
    · rw [if_pos ok] at hf
      omega
  · rw [if_neg ok] at hf
    omega
theorem j2_ev {l : List Int} (hl : l.length ≤ 1048576) : Ev (fun k => laws_FnRelays.j2 k l false) true := by
  refine Ev.step (fun k => rfl) ?_
  simp only [laws_FnRelays.j2, Bool.false_eq_true, if_false]
  obtain ⟨a, b, e⟩ := DrawFoodEaten_ev hl
  obtain ⟨r, hr, h0⟩ := impl_FoodEaten_eq a b
  refine Ev.bind e ?_
  simp only [hr, Option.bind_some, ge_iff_le, h0, decide_true]
  exact Ev.now _
theorem j1_ev {l : List Int} (hl : l.length ≤ 1048576) : Ev (fun k => laws_FnRelays.j1 k l false) true := by
  refine Ev.step (fun k => rfl) ?_
  simp only [laws_FnRelays.j1, Bool.false_eq_true, if_false]
  obtain ⟨g, h, q, e, hq⟩ := DrawFarthestBy_ev hl
  refine Ev.bind e (Ev.bind (impl_FarthestBy_ev g h q) ?_)
  dsimp only
  by_cases c : farthest g h q ≥ 0
  · refine evPos c ?_
    simp only [impl_OutDays_eq, Option.bind_some]
    refine evNeg (far_out c) ?_
    by_cases cq : q > 0
    · refine evPos cq ?_
      rw [wrapId (n := q - 1) (by omega) (by omega)]
      refine Ev.bind (impl_FarthestBy_ev g h (q - 1)) ?_
      simp only [far_more c cq]
      exact j2_ev hl
    · exact evNeg cq (j2_ev hl)
  · exact evNeg c (j2_ev hl)
theorem trips_ok {a b c f : Int} (h : trips a b c f > 0) : 1 ≤ spare a b c ∧ (0 ≤ f ∧ f ≤ 10000) ∧ trips a b c f = (f + spare a b c - 1) / spare a b c := by
  have hs := spare_le a b c
  unfold trips at h ⊢
  by_cases q : spare a b c < 0 ∨ ¬ (0 ≤ f ∧ f ≤ 10000) ∨ (spare a b c = 0 ∧ f ≠ 0)
  · rw [if_pos q] at h
    omega
  · rw [if_neg q] at h ⊢
    by_cases z : f = 0
    · rw [if_pos z] at h
      omega
    · rw [if_neg z]
      refine ⟨?_, ?_, rfl⟩
      · by_cases s0 : spare a b c = 0
        · exact absurd (.inr (.inr ⟨s0, z⟩)) q
        · by_cases s1 : spare a b c < 0
          · exact absurd (.inl s1) q
          · omega
      · by_cases y : 0 ≤ f ∧ f ≤ 10000
        · exact y
        · exact absurd (.inr (.inl y)) q
theorem trips_zero {a b c f : Int} (h : trips a b c f = 0) : f = 0 := by
  have hs := spare_le a b c
  unfold trips at h
  by_cases q : spare a b c < 0 ∨ ¬ (0 ≤ f ∧ f ≤ 10000) ∨ (spare a b c = 0 ∧ f ≠ 0)
  · rw [if_pos q] at h
    omega
  · rw [if_neg q] at h
    by_cases z : f = 0
    · exact z
    · rw [if_neg z] at h
      have s1 : 1 ≤ spare a b c := by
        by_cases s0 : spare a b c = 0
        · exact absurd (.inr (.inr ⟨s0, z⟩)) q
        · by_cases s1 : spare a b c < 0
          · exact absurd (.inl s1) q
          · omega
      have y : 0 ≤ f := by
        by_cases y : 0 ≤ f ∧ f ≤ 10000
        · exact y.1
        · exact absurd (.inr (.inl y)) q
      have : 1 ≤ (f + spare a b c - 1) / spare a b c := (Int.le_ediv_iff_mul_le (by omega)).2 (by omega)
      omega
theorem j0_ev {l : List Int} (hl : l.length ≤ 1048576) : Ev (fun k => laws_FnRelays.j0 k l false) true := by
  refine Ev.step (fun k => rfl) ?_
  simp only [laws_FnRelays.j0, Bool.false_eq_true, if_false]
  obtain ⟨a, b, c, f, e⟩ := DrawTripsFor_ev hl
  have ht : Ev (fun k => impl_TripsFor.f k a b c f) (trips a b c f) := ⟨1, fun k hk => by obtain ⟨m, rfl⟩ : ∃ m, k = m + 1 := ⟨k - 1, by omega⟩; exact impl_TripsFor_eq m a b c f⟩
  refine Ev.bind e (Ev.bind ht ?_)
  dsimp only
  by_cases p : trips a b c f > 0
  · obtain ⟨s1, f1, te⟩ := trips_ok p
    have hs := spare_le a b c
    have cb := ceilBound f1 ⟨s1, hs.2⟩
    rw [← te] at cb
    have m0 : 0 ≤ trips a b c f * spare a b c := Int.mul_nonneg (by omega) (by omega)
    have m1 : trips a b c f * spare a b c ≤ 20000 * 10000 := Int.mul_le_mul cb.2 hs.2 (by omega) (by omega)
    have m2 : (trips a b c f - 1) * spare a b c = trips a b c f * spare a b c - spare a b c := by rw [Int.sub_mul, Int.one_mul]
    have d0 : (f + spare a b c - 1) / spare a b c * spare a b c ≤ f + spare a b c - 1 := Int.ediv_mul_le _ (by omega)
    have d1 : f + spare a b c - 1 < ((f + spare a b c - 1) / spare a b c + 1) * spare a b c := Int.lt_ediv_add_one_mul_self _ (by omega)
    rw [← te] at d0 d1
    have d2 : (trips a b c f + 1) * spare a b c = trips a b c f * spare a b c + spare a b c := by rw [Int.add_mul, Int.one_mul]
    refine evPos p ?_
    simp only [impl_SpareAt_eq, Option.bind_some]
    rw [wrapId (n := trips a b c f * spare a b c) (by omega) (by omega), wrapId (n := trips a b c f - 1) (by omega) (by omega), wrapId (n := (trips a b c f - 1) * spare a b c) (by omega) (by omega)]
    exact evNeg (by omega) (evNeg (by omega) (evNeg (by omega) (j1_ev hl)))
  · refine evNeg p ?_
    by_cases z : trips a b c f = 0
    · refine evPos z ?_
      rw [trips_zero z]
      exact j1_ev hl
    · exact evNeg z (j1_ev hl)
def FnRelays.Claim : Prop := ∀ (l0 : List (Int)), l0.length ≤ maxLen → (∀ x ∈ l0, (Lit.int .u8 x).wf = true) → ∃ k, laws_FnRelays.f k l0 = some true
theorem FnRelays : FnRelays.Claim := by
  intro l _ _
  apply Ev.rounds
  unfold laws_FnRelays.f
  simp only [big_eq, Option.bind_some]
  by_cases hb : (l.length : Int) > 1048576
  · exact evPos (decide_eq_true hb) (Ev.now _)
  refine evNeg (by rw [decide_eq_true_eq]; exact hb) ?_
  have hl : l.length ≤ 1048576 := by omega
  obtain ⟨a, b, e⟩ := DrawOutDays_ev hl
  refine Ev.bind e ?_
  simp only [impl_OutDays_eq, impl_SpareAt_eq, Option.bind_some]
  have ol := outDays_le a b
  by_cases c0 : a ≥ 0
  · refine evPos c0 ?_
    by_cases c1 : a ≤ 10000
    · refine evPos c1 ?_
      by_cases c2 : b ≥ 1
      · refine evPos c2 ?_
        by_cases c3 : b ≤ 100
        · refine evPos c3 ?_
          have lo : loadsOk a b := ⟨⟨by omega, c1⟩, by omega, c3⟩
          have eo : outDays a b = a / (2 * b) := by unfold outDays; rw [if_pos lo]
          have d0 : a / (2 * b) * (2 * b) ≤ a := Int.ediv_mul_le _ (by omega)
          have d1 : a < (a / (2 * b) + 1) * (2 * b) := Int.lt_ediv_add_one_mul_self _ (by omega)
          rw [← eo] at d0 d1
          have e0 : outDays a b * (2 * b) = 2 * b * outDays a b := Int.mul_comm _ _
          have e1 : (outDays a b + 1) * (2 * b) = 2 * b * (outDays a b + 1) := Int.mul_comm _ _
          rw [wrapId (n := outDays a b + 1) (by omega) (by omega)]
          have more : outDays a b < 1000 → decide (spare a b (outDays a b + 1) ≥ 0) = false := by
            intro q
            rw [decide_eq_false_iff_not]
            unfold spare
            rw [if_pos ⟨lo, by omega⟩]
            split <;> omega
          by_cases c4 : outDays a b ≤ 1000
          · refine evPos c4 ?_
            have sp : ¬ spare a b (outDays a b) < 0 := by
              unfold spare
              rw [if_pos ⟨lo, by omega⟩]
              split <;> omega
            refine evNeg sp ?_
            by_cases c5 : outDays a b < 1000
            · refine evPos c5 ?_
              rw [more c5]
              exact j0_ev hl
            · exact evNeg c5 (j0_ev hl)
          · exact evNeg c4 (evNeg (by omega) (j0_ev hl))
        · exact evNeg c3 (j0_ev hl)
      · exact evNeg c2 (j0_ev hl)
    · exact evNeg c1 (j0_ev hl)
  · exact evNeg c0 (j0_ev hl)
end Go.Proofs.Ytkdclkbgejbgjac.Pure
