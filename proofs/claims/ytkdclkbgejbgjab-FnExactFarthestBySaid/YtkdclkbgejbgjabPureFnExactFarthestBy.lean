/- For every load, need and number of trips, the program's FarthestBy and the reference's give the same answer: the law's Go function answers true. No condition beyond the kinds of the numbers. -/
import Derived.Test.YtkdclkbgejbgjabPFnExactFarthestByx2
import Derived.Test.YtkdclkbgejbgjabAid
namespace Go.Proofs.Ytkdclkbgejbgjab.Pure
open Go.RowKit Go.Proofs.Ytkdclkbgejbgjab.PFnExactFarthestBy Go.Proofs.Ytkdclkbgejbgjab.Aid Go.Proofs.YtkdclkbgejbgjabW.PrintWords Go.Proofs.YtkdclkbgejbgjabW.PrintLast Go.Proofs.YtkdclkbgejbgjabW.PrintMore
set_option linter.unusedVariables false
set_option linter.unusedSimpArgs false
theorem inRange_eq (a b c : Int) : impl_InRange.f a b c = some (decide (b ≤ a ∧ a ≤ c)) := by
  unfold impl_InRange.f
  by_cases h : b ≤ a
  · rw [if_pos h]
    simp [h]
  · rw [if_neg h]
    simp [h]

def loadsOk (a b : Int) : Prop := (0 ≤ a ∧ a ≤ 10000) ∧ (1 ≤ b ∧ b ≤ 100)
instance (a b : Int) : Decidable (loadsOk a b) := inferInstanceAs (Decidable (_ ∧ _))
theorem impl_areLoads_eq (a b : Int) : impl_areLoads.f a b = some (decide (loadsOk a b)) := by
  unfold impl_areLoads.f loadsOk
  simp only [inRange_eq, Option.bind_some]
  by_cases h0 : 0 ≤ a ∧ a ≤ 10000 <;> simp [h0]
/-- What one can leave. -/
def spare (a b d : Int) : Int := if loadsOk a b ∧ (0 ≤ d ∧ d ≤ 1000) then (if a - 2 * b * d < -1 then -1 else a - 2 * b * d) else -1
theorem prodBound {b d : Int} (hb : 1 ≤ b ∧ b ≤ 100) (hd : 0 ≤ d ∧ d ≤ 1000) : 0 ≤ 2 * b * d ∧ 2 * b * d ≤ 200000 := by
  have h0 : 0 ≤ b * d := Int.mul_nonneg (by omega) (by omega)
  have h1 : b * d ≤ 100 * 1000 := Int.mul_le_mul (by omega) (by omega) (by omega) (by omega)
  have e : 2 * b * d = 2 * (b * d) := Int.mul_assoc 2 b d
  omega
theorem impl_SpareAt_eq (a b d : Int) : impl_SpareAt.f a b d = some (spare a b d) := by
  unfold impl_SpareAt.f spare
  simp only [impl_areLoads_eq, inRange_eq, Option.bind_some]
  by_cases h0 : loadsOk a b
  · by_cases h1 : 0 ≤ d ∧ d ≤ 1000
    · have h0' := h0
      unfold loadsOk at h0'
      have pb := prodBound h0'.2 h1
      rw [wrapId (n := 2 * b) (by omega) (by omega), wrapId (n := 2 * b * d) (by omega) (by omega), wrapId (n := a - 2 * b * d) (by omega) (by omega)]
      simp [h0, h1, mx]
    · simp [h0, h1]
  · simp [h0]

def worksP (load need trips d e : Int) : Prop := 0 ≤ spare load need e ∧ need * e ≤ trips * spare load need e ∧ need * (d - e) + (if need * e - (trips * spare load need e - need * e) < 0 then 0 else need * e - (trips * spare load need e - need * e)) ≤ load - need * (d - e)
instance (load need trips d e : Int) : Decidable (worksP load need trips d e) := inferInstanceAs (Decidable (_ ∧ _ ∧ _))
/-- Does one of n depots, from the one at e on, work? -/
def anyE (load need trips d : Int) : Int → Nat → Bool
  | _, 0 => false
  | e, n + 1 => decide (worksP load need trips d e) || anyE load need trips d (e + 1) n
/-- The farthest of n days that works; 0 if none does. -/
def farDown (load need trips : Int) : Nat → Int
  | 0 => 0
  | n + 1 => if anyE load need trips ((n + 1 : Nat) : Int) 0 (n + 2) = true then ((n + 1 : Nat) : Int) else farDown load need trips n
def farOk (load need trips : Int) : Prop := (0 ≤ trips ∧ trips ≤ 20) ∧ (0 ≤ load ∧ load ≤ 1000) ∧ (1 ≤ need ∧ need ≤ 100)
instance (load need trips : Int) : Decidable (farOk load need trips) := inferInstanceAs (Decidable (_ ∧ _ ∧ _))
def farthest (load need trips : Int) : Int := if farOk load need trips then farDown load need trips (load / need).toNat else -1
theorem prodLe {need load d e : Int} (hn : 1 ≤ need) (he : 0 ≤ e) (hed : e ≤ d) (hd : d ≤ load / need) (h0 : 0 ≤ load) : 0 ≤ need * e ∧ need * e ≤ load ∧ 0 ≤ need * (d - e) ∧ need * (d - e) ≤ load ∧ d ≤ load := by
  have a0 : 0 ≤ need * e := Int.mul_nonneg (by omega) he
  have a1 : 0 ≤ need * (d - e) := Int.mul_nonneg (by omega) (by omega)
  have a2 : need * d ≤ load := by
    have x : need * d ≤ need * (load / need) := Int.mul_le_mul_of_nonneg_left hd (by omega)
    have y : need * (load / need) ≤ load := Int.mul_ediv_self_le (by omega)
    omega
  have a3 : need * d = need * (d - e) + need * e := by rw [← Int.mul_add]; congr 1; omega
  have a4 : load / need ≤ load := Int.ediv_le_self _ h0
  omega
theorem tripsLe {trips s : Int} (ht : 0 ≤ trips ∧ trips ≤ 20) (hs : -1 ≤ s ∧ s ≤ 10000) : -20 ≤ trips * s ∧ trips * s ≤ 200000 := by
  rcases Int.lt_or_le s 0 with h | h
  · have : s = -1 := by omega
    subst this
    omega
  · have x : 0 ≤ trips * s := Int.mul_nonneg ht.1 h
    have y : trips * s ≤ 20 * 10000 := Int.mul_le_mul ht.2 hs.2 h (by omega)
    omega
theorem farSpare_le (a b d : Int) : -1 ≤ spare a b d ∧ spare a b d ≤ 10000 := by
  unfold spare
  split
  · rename_i h
    obtain ⟨h0, h1⟩ := h
    unfold loadsOk at h0
    have pb := prodBound h0.2 h1
    split <;> omega
  · omega

theorem impl_far_step {load need trips : Int} (ok : farOk load need trips) {d e : Int} (he : 0 ≤ e) (hed : e ≤ d) (hd : d ≤ load / need) (k : Nat) :
    impl_FarthestBy.l1 (k + 1) load need trips d e = if worksP load need trips d e then some d else impl_FarthestBy.l1 k load need trips d (e + 1) := by
  obtain ⟨ht, hl, hn⟩ := ok
  have pl := prodLe hn.1 he hed hd hl.1
  have fs := farSpare_le load need e
  have tl := tripsLe ht fs
  simp only [impl_FarthestBy.l1, impl_SpareAt_eq, Option.bind_some]
  rw [if_pos hed, wrapId (n := trips * spare load need e) (by omega) (by omega), wrapId (n := need * e) (by omega) (by omega), wrapId (n := d - e) (by omega) (by omega), wrapId (n := need * (d - e)) (by omega) (by omega), wrapId (n := load - need * (d - e)) (by omega) (by omega),
    wrapId (n := trips * spare load need e - need * e) (by omega) (by omega), wrapId (n := need * e - (trips * spare load need e - need * e)) (by omega) (by omega), wrapId (n := e + 1) (by omega) (by omega)]
  have em : mx (need * e - (trips * spare load need e - need * e)) 0 = (if need * e - (trips * spare load need e - need * e) < 0 then 0 else need * e - (trips * spare load need e - need * e)) := rfl
  rw [em]
  have eb : wrap64 (need * (d - e) + (if need * e - (trips * spare load need e - need * e) < 0 then 0 else need * e - (trips * spare load need e - need * e))) = need * (d - e) + (if need * e - (trips * spare load need e - need * e) < 0 then 0 else need * e - (trips * spare load need e - need * e)) := by
    refine wrapId ?_ ?_
    · split <;> omega
    · split <;> omega
  rw [eb]
  by_cases c0 : 0 ≤ spare load need e
  · by_cases c1 : need * e ≤ trips * spare load need e
    · by_cases c2 : need * (d - e) + (if need * e - (trips * spare load need e - need * e) < 0 then 0 else need * e - (trips * spare load need e - need * e)) ≤ load - need * (d - e)
      · have w : worksP load need trips d e := ⟨c0, c1, c2⟩
        rw [if_pos w, if_pos c0, if_pos c1, if_pos c2]
      · have w : ¬ worksP load need trips d e := fun x => c2 x.2.2
        rw [if_neg w, if_pos c0, if_pos c1, if_neg c2]
    · have w : ¬ worksP load need trips d e := fun x => c1 x.2.1
      rw [if_neg w, if_pos c0, if_neg c1]
  · have w : ¬ worksP load need trips d e := fun x => c0 x.1
    rw [if_neg w, if_neg c0]
theorem impl_far_in {load need trips : Int} (ok : farOk load need trips) {d : Int} (hd0 : 1 ≤ d) (hd : d ≤ load / need) (r : Int) (hr : Ev (fun k => impl_FarthestBy.l0 k load need trips (d - 1)) r) :
    ∀ (n : Nat) (e : Int), 0 ≤ e → e + n = d + 1 → Ev (fun k => impl_FarthestBy.l1 k load need trips d e) (if anyE load need trips d e n = true then d else r) := by
  have pl := prodLe ok.2.2.1 (show (0 : Int) ≤ 0 by omega) (show 0 ≤ d by omega) hd ok.2.1.1
  have hl := ok.2.1
  intro n
  induction n with
  | zero =>
    intro e he hs
    simp only [anyE, Bool.false_eq_true, if_false]
    refine Ev.step (fun k => ?_) hr
    simp only [impl_FarthestBy.l1]
    rw [if_neg (by omega), wrapId (n := d - 1) (by omega) (by omega)]
  | succ n ih =>
    intro e he hs
    refine Ev.step (fun k => impl_far_step ok he (by omega) hd k) ?_
    by_cases c : worksP load need trips d e
    · simp only [anyE, c, decide_true, Bool.true_or, if_true]
      exact Ev.now _
    · simp only [anyE, c, decide_false, Bool.false_or, if_false]
      exact ih (e + 1) (by omega) (by omega)
theorem impl_far_l0 {load need trips : Int} (ok : farOk load need trips) : ∀ (n : Nat), (n : Int) ≤ load / need → Ev (fun k => impl_FarthestBy.l0 k load need trips (n : Int)) (farDown load need trips n)
  | 0, _ => by
    refine Ev.step (f := fun _ => some 0) (fun k => ?_) (Ev.now _)
    simp only [impl_FarthestBy.l0]
    rw [if_neg (by omega)]
  | n + 1, h => by
    have ih := impl_far_l0 ok n (by omega)
    have := impl_far_in ok (d := ((n + 1 : Nat) : Int)) (by omega) h _ (by rw [show (((n + 1 : Nat) : Int) - 1) = (n : Int) by omega]; exact ih) (n + 2) 0 (by omega) (by omega)
    refine Ev.step (fun k => ?_) this
    simp only [impl_FarthestBy.l0]
    rw [if_pos (by omega)]
theorem impl_FarthestBy_ev (load need trips : Int) : Ev (fun k => impl_FarthestBy.f k load need trips) (farthest load need trips) := by
  have no : ¬ farOk load need trips → Ev (fun k => impl_FarthestBy.j0 k load need trips true) (farthest load need trips) := by
    intro q
    rw [show farthest load need trips = -1 by unfold farthest; rw [if_neg q]]
    refine Ev.step (f := fun _ => some (-1)) (fun k => ?_) (Ev.now _)
    simp only [impl_FarthestBy.j0, if_true]
  unfold impl_FarthestBy.f
  simp only [inRange_eq, Option.bind_some]
  by_cases c0 : 0 ≤ trips ∧ trips ≤ 20
  · refine evPos (decide_eq_true c0) ?_
    by_cases c1 : 0 ≤ load ∧ load ≤ 1000
    · refine evPos (decide_eq_true c1) ?_
      by_cases c2 : 1 ≤ need ∧ need ≤ 100
      · have ok : farOk load need trips := ⟨c0, c1, c2⟩
        rw [decide_eq_true c2, show farthest load need trips = farDown load need trips (load / need).toNat by unfold farthest; rw [if_pos ok]]
        have q0 : 0 ≤ load / need := Int.ediv_nonneg c1.1 (by omega)
        have q1 : load / need ≤ load := Int.ediv_le_self _ c1.1
        have := impl_far_l0 ok (load / need).toNat (by omega)
        rw [show (((load / need).toNat : Nat) : Int) = load / need by omega] at this
        refine Ev.step (fun k => ?_) this
        simp only [impl_FarthestBy.j0, Bool.not_true, Bool.false_eq_true, if_false]
        rw [if_neg (by omega), Int.tdiv_eq_ediv_of_nonneg c1.1, wrapId (n := load / need) (by omega) (by omega)]
      · rw [decide_eq_false c2]
        exact no (fun x => c2 x.2.2)
    · exact evNeg (by rw [decide_eq_true_eq]; exact c1) (no (fun x => c1 x.2.1))
  · exact evNeg (by rw [decide_eq_true_eq]; exact c0) (no (fun x => c0 x.1))

theorem l1In_eq (a b c : Int) : spec_l1In.f a b c = some (decide (b ≤ a ∧ a ≤ c)) := by
  unfold spec_l1In.f
  by_cases h : b ≤ a
  · rw [if_pos h]
    simp [h]
  · rw [if_neg h]
    simp [h]

theorem spec_Max_eq (a b : Int) : spec_Max.f a b = some (if b > a then b else a) := by
  unfold spec_Max.f
  split <;> rfl
theorem spec_l13Ok_eq (a b : Int) : spec_l13Ok.f a b = some (decide (loadsOk a b)) := by
  unfold spec_l13Ok.f loadsOk
  simp only [l1In_eq, Option.bind_some]
  by_cases h0 : 0 ≤ a ∧ a ≤ 10000 <;> simp [h0]
theorem spec_SpareAt_eq (a b d : Int) : spec_SpareAt.f a b d = some (spare a b d) := by
  unfold spec_SpareAt.f spare
  simp only [spec_l13Ok_eq, l1In_eq, spec_Max_eq, Option.bind_some]
  by_cases h0 : loadsOk a b
  · by_cases h1 : 0 ≤ d ∧ d ≤ 1000
    · have h0' := h0
      unfold loadsOk at h0'
      have pb := prodBound h0'.2 h1
      rw [wrapId (n := 2 * b) (by omega) (by omega), wrapId (n := 2 * b * d) (by omega) (by omega), wrapId (n := a - 2 * b * d) (by omega) (by omega)]
      simp only [h0, h1, decide_true, if_true, and_self]
      congr 1
      split <;> split <;> omega
    · simp [h0, h1]
  · simp [h0]

theorem l13Works_eq {load need trips : Int} (ok : farOk load need trips) {d e : Int} (he : 0 ≤ e) (hed : e ≤ d) (hd : d ≤ load / need) : spec_l13Works.f load need trips d e = some (decide (worksP load need trips d e)) := by
  obtain ⟨ht, hl, hn⟩ := ok
  have pl := prodLe hn.1 he hed hd hl.1
  have fs := farSpare_le load need e
  have tl := tripsLe ht fs
  unfold spec_l13Works.f
  simp only [spec_SpareAt_eq, spec_Max_eq, Option.bind_some]
  rw [wrapId (n := trips * spare load need e) (by omega) (by omega), wrapId (n := need * e) (by omega) (by omega), wrapId (n := d - e) (by omega) (by omega), wrapId (n := need * (d - e)) (by omega) (by omega), wrapId (n := load - need * (d - e)) (by omega) (by omega),
    wrapId (n := trips * spare load need e - need * e) (by omega) (by omega), wrapId (n := need * e - (trips * spare load need e - need * e)) (by omega) (by omega)]
  have em : (if need * e - (trips * spare load need e - need * e) > 0 then need * e - (trips * spare load need e - need * e) else 0) = (if need * e - (trips * spare load need e - need * e) < 0 then 0 else need * e - (trips * spare load need e - need * e)) := by
    split <;> split <;> omega
  rw [em]
  have eb : wrap64 (need * (d - e) + (if need * e - (trips * spare load need e - need * e) < 0 then 0 else need * e - (trips * spare load need e - need * e))) = need * (d - e) + (if need * e - (trips * spare load need e - need * e) < 0 then 0 else need * e - (trips * spare load need e - need * e)) := by
    refine wrapId ?_ ?_
    · split <;> omega
    · split <;> omega
  rw [eb]
  by_cases c0 : 0 ≤ spare load need e
  · by_cases c1 : need * e ≤ trips * spare load need e
    · rw [if_neg (by omega), if_neg (by omega)]
      by_cases c2 : need * (d - e) + (if need * e - (trips * spare load need e - need * e) < 0 then 0 else need * e - (trips * spare load need e - need * e)) ≤ load - need * (d - e)
      · have w : worksP load need trips d e := ⟨c0, c1, c2⟩
        rw [decide_eq_true w, decide_eq_true (ge_iff_le.2 c2)]
      · have w : ¬ worksP load need trips d e := fun x => c2 x.2.2
        rw [decide_eq_false w, decide_eq_false (fun x => c2 (ge_iff_le.1 x))]
    · have w : ¬ worksP load need trips d e := fun x => c1 x.2.1
      rw [if_neg (by omega), if_pos (by omega), decide_eq_false w]
  · have w : ¬ worksP load need trips d e := fun x => c0 x.1
    rw [if_pos (by omega), decide_eq_false w]
theorem spec_far_stop {load need trips : Int} (ok : farOk load need trips) {b d : Int} (e : Int) (hd0 : 0 ≤ d) (hd : d ≤ load / need) {r : Int} (hr : Ev (fun k => spec_FarthestBy.l0 k load need trips b (d + 1)) r) : Ev (fun k => spec_FarthestBy.j3 k load need trips b d e false) r := by
  have pl := prodLe ok.2.2.1 (show (0 : Int) ≤ 0 by omega) hd0 hd ok.2.1.1
  have hl := ok.2.1
  refine Ev.step (fun k => ?_) hr
  simp only [spec_FarthestBy.j3, Bool.false_eq_true, if_false]
  rw [wrapId (n := d + 1) (by omega) (by omega)]
theorem spec_far_in {load need trips : Int} (ok : farOk load need trips) {best d : Int} (hd0 : 0 ≤ d) (hd : d ≤ load / need) (hb : best < d) :
    ∀ (n : Nat) (e : Int), 0 ≤ e → e + n = d + 1 → ∀ r, Ev (fun k => spec_FarthestBy.l0 k load need trips (if anyE load need trips d e n = true then d else best) (d + 1)) r → Ev (fun k => spec_FarthestBy.l1 k load need trips best d e) r := by
  have pl := prodLe ok.2.2.1 (show (0 : Int) ≤ 0 by omega) hd0 hd ok.2.1.1
  have hl := ok.2.1
  intro n
  induction n with
  | zero =>
    intro e he hs r hr
    simp only [anyE, Bool.false_eq_true, if_false] at hr
    refine Ev.step (fun k => ?_) (spec_far_stop ok e hd0 hd hr)
    simp only [spec_FarthestBy.l1]
    rw [if_neg (by omega)]
  | succ n ih =>
    intro e he hs r hr
    have st : ∀ k, spec_FarthestBy.l1 (k + 1) load need trips best d e = spec_FarthestBy.j3 k load need trips best d e true := by
      intro k
      simp only [spec_FarthestBy.l1]
      rw [if_pos (by omega), decide_eq_true hb]
    have st1 : ∀ k, spec_FarthestBy.j3 (k + 1) load need trips best d e true = if decide (worksP load need trips d e) = true then spec_FarthestBy.l1 k load need trips d d (e + 1) else spec_FarthestBy.l1 k load need trips best d (e + 1) := by
      intro k
      simp only [spec_FarthestBy.j3, if_true, l13Works_eq ok he (show e ≤ d by omega) hd, Option.bind_some]
      rw [wrapId (n := e + 1) (by omega) (by omega)]
    refine Ev.step st (Ev.step st1 ?_)
    by_cases c : worksP load need trips d e
    · simp only [anyE, c, decide_true, Bool.true_or, if_true] at hr
      refine evPos (decide_eq_true c) ?_
      have dd : decide (d < d) = false := by rw [decide_eq_false_iff_not]; omega
      refine Ev.step (fun k => ?_) (spec_far_stop ok (e + 1) hd0 hd hr)
      simp only [spec_FarthestBy.l1]
      by_cases ce : e + 1 ≤ d
      · rw [if_pos ce, dd]
      · rw [if_neg ce]
    · simp only [anyE, c, decide_false, Bool.false_or] at hr
      exact evNeg (by rw [decide_eq_true_eq]; exact c) (ih (e + 1) (by omega) (by omega) r hr)
theorem farDown_le (load need trips : Int) : ∀ n : Nat, 0 ≤ farDown load need trips n ∧ farDown load need trips n ≤ (n : Int)
  | 0 => by simp [farDown]
  | n + 1 => by
    have := farDown_le load need trips n
    simp only [farDown]
    split <;> omega
/-- From the day n + 1 on, with the best of the days before, the reference's loop comes to the best of all. -/
theorem spec_far_l0 {load need trips : Int} (ok : farOk load need trips) (N : Nat) (hN : (N : Int) = load / need) : ∀ (m n : Nat), n + m = N → Ev (fun k => spec_FarthestBy.l0 k load need trips (farDown load need trips n) ((n : Int) + 1)) (farDown load need trips N) := by
  have hn := ok.2.2
  have hl := ok.2.1
  have q1 : load / need ≤ load := Int.ediv_le_self _ hl.1
  have q0 : 0 ≤ load / need := Int.ediv_nonneg hl.1 (by omega)
  have td : wrap64 (Int.tdiv load need) = load / need := by
    rw [Int.tdiv_eq_ediv_of_nonneg hl.1]
    exact wrapId (by omega) (by omega)
  intro m
  induction m with
  | zero =>
    intro n h
    obtain rfl : n = N := by omega
    refine Ev.step (f := fun _ => some (farDown load need trips n)) (fun k => ?_) (Ev.now _)
    simp only [spec_FarthestBy.l0]
    rw [if_neg (by omega), td, if_neg (by omega)]
  | succ m ih =>
    intro n h
    have ih := ih (n + 1) (by omega)
    have fl := farDown_le load need trips n
    refine Ev.step (f := fun k => spec_FarthestBy.l1 k load need trips (farDown load need trips n) ((n : Int) + 1) 0) (fun k => ?_) ?_
    · simp only [spec_FarthestBy.l0]
      rw [if_neg (by omega), td, if_pos (by omega)]
    refine spec_far_in ok (by omega) (by omega) (by omega) (n + 2) 0 (by omega) (by omega) _ ?_
    have e : (if anyE load need trips ((n : Int) + 1) 0 (n + 2) = true then (n : Int) + 1 else farDown load need trips n) = farDown load need trips (n + 1) := by
      simp only [farDown]
      rfl
    rw [e]
    exact ih
theorem spec_FarthestBy_ev (load need trips : Int) : Ev (fun k => spec_FarthestBy.f k load need trips) (farthest load need trips) := by
  have no : ¬ farOk load need trips → Ev (fun k => spec_FarthestBy.j0 k load need trips true) (farthest load need trips) := by
    intro q
    rw [show farthest load need trips = -1 by unfold farthest; rw [if_neg q]]
    refine Ev.step (f := fun _ => some (-1)) (fun k => ?_) (Ev.now _)
    simp only [spec_FarthestBy.j0, if_true]
  unfold spec_FarthestBy.f
  simp only [l1In_eq, Option.bind_some]
  by_cases c1 : 0 ≤ load ∧ load ≤ 1000
  · refine evPos (decide_eq_true c1) ?_
    by_cases c2 : 1 ≤ need ∧ need ≤ 100
    · refine evPos (decide_eq_true c2) ?_
      by_cases c0 : 0 ≤ trips ∧ trips ≤ 20
      · have ok : farOk load need trips := ⟨c0, c1, c2⟩
        rw [decide_eq_true c0, show farthest load need trips = farDown load need trips (load / need).toNat by unfold farthest; rw [if_pos ok]]
        have q0 : 0 ≤ load / need := Int.ediv_nonneg c1.1 (by omega)
        have q1 : load / need ≤ load := Int.ediv_le_self _ c1.1
        have td : wrap64 (Int.tdiv load need) = load / need := by
          rw [Int.tdiv_eq_ediv_of_nonneg c1.1]
          exact wrapId (by omega) (by omega)
        have := spec_far_l0 ok (load / need).toNat (by omega) (load / need).toNat 0 (by omega)
        refine Ev.step (f := fun k => spec_FarthestBy.l0 k load need trips 0 0) (fun k => ?_) ?_
        · simp only [spec_FarthestBy.j0, Bool.not_true, Bool.false_eq_true, if_false]
        refine Ev.step (f := fun k => spec_FarthestBy.l1 k load need trips 0 0 0) (fun k => ?_) ?_
        · simp only [spec_FarthestBy.l0]
          rw [if_neg (by omega), td, if_pos q0]
        refine Ev.step (f := fun k => spec_FarthestBy.j3 k load need trips 0 0 0 false) (fun k => ?_) (spec_far_stop ok 0 (by omega) q0 this)
        simp only [spec_FarthestBy.l1]
        rfl
      · rw [decide_eq_false c0]
        exact no (fun x => c0 x.1)
    · exact evNeg (by rw [decide_eq_true_eq]; exact c2) (no (fun x => c2 x.2.2))
  · exact evNeg (by rw [decide_eq_true_eq]; exact c1) (no (fun x => c1 x.2.1))
def FnExactFarthestBy.Claim : Prop := ∀ (a0 : Int) (a1 : Int) (a2 : Int), (Lit.int .i64 a0).wf = true → (Lit.int .i64 a1).wf = true → (Lit.int .i64 a2).wf = true → ∃ k, laws_FnExactFarthestBy.f k a0 a1 a2 = some true
theorem FnExactFarthestBy : FnExactFarthestBy.Claim := by
  intro a b c _ _ _
  apply Ev.rounds
  unfold laws_FnExactFarthestBy.f
  exact Ev.bind (spec_FarthestBy_ev a b c) (Ev.bind (impl_FarthestBy_ev a b c) (evPos rfl (Ev.now _)))
end Go.Proofs.Ytkdclkbgejbgjab.Pure
