/- For all areas, searched cells and cells, the program's IsFound and the reference's give the same answer: the law's Go function answers true. No condition beyond the kinds of the numbers. -/
import Derived.Test.YtkdclkbgejbgjaaPFnExactIsFoundx1
import Derived.Test.YtkdclkbgejbgjaaAid
namespace Go.Proofs.Ytkdclkbgejbgjaa.Pure
open Go.RowKit Go.Proofs.Ytkdclkbgejbgjaa.PFnExactIsFound Go.Proofs.Ytkdclkbgejbgjaa.Aid Go.Proofs.YtkdclkbgejbgjaaW.PrintWords Go.Proofs.YtkdclkbgejbgjaaW.PrintLast Go.Proofs.YtkdclkbgejbgjaaW.PrintMore
set_option linter.unusedVariables false
set_option linter.unusedSimpArgs false
theorem toIntS_ev {l : List Int} (hl : l.length ≤ 1048576) : Ev (fun k => laws_toIntS.f k l) l := by
  have key := evScan l (fun k (acc : List Int) i => laws_toIntS.l0 k l acc i) (fun _ _ _ => l) (fun acc i => acc.length = l.length ∧ acc.take i = l.take i) (fun acc ⟨h0, h1⟩ => by
      refine Ev.step (f := fun _ => some acc) (fun k => ?_) ?_
      · simp only [laws_toIntS.l0]
        rw [if_neg (by omega)]
      · rw [take_whole h0 h1]
        exact Ev.now _) (fun acc i t h ht ⟨h0, h1⟩ ih => by
      refine Ev.step (fun k => ?_) (ih (acc.set i l[i]) ⟨by simpa using h0, take_set_succ h h0 h1⟩)
      simp only [laws_toIntS.l0]
      rw [if_pos (by omega), if_pos (by omega), if_pos (by omega), rdIn h, wrapSucc (by omega), toNatCast])
    (List.replicate l.length 0) ⟨by simp, by simp⟩
  refine Ev.congr (fun k => ?_) key
  simp only [laws_toIntS.f]
  rw [if_pos (by omega), if_pos (by omega), toNatCast]
theorem eqIntS_ev {a b : List Int} (ha : a.length ≤ 1048576) : Ev (fun k => laws_eqIntS.f k a b) (decide (a = b)) := by
  by_cases e : a.length = b.length
  · have key := evScan a (fun k (_ : Unit) i => laws_eqIntS.l0 k a b i) (fun _ i t => decide (t = b.drop i)) (fun _ _ => True) (fun _ _ => by
        refine Ev.step (f := fun _ => some true) (fun k => ?_) ?_
        · simp only [laws_eqIntS.l0]
          rw [if_neg (by omega)]
        · rw [e, List.drop_length]
          exact Ev.now _) (fun _ i t h ht _ ih => by
        have hb : i < b.length := by omega
        have st : ∀ k, laws_eqIntS.l0 (k + 1) a b (i : Int) = if a[i] = b[i] then laws_eqIntS.l0 k a b ((i + 1 : Nat) : Int) else some false := by
          intro k
          simp only [laws_eqIntS.l0]
          rw [if_pos (by omega), if_pos (by omega), if_pos (by omega), rdIn h, rdIn hb, wrapSucc (by omega)]
        refine Ev.step st ?_
        rw [List.drop_eq_getElem_cons hb]
        by_cases c : a[i] = b[i]
        · refine evPos c ?_
          rw [show decide (a[i] :: t = b[i] :: b.drop (i + 1)) = decide (t = b.drop (i + 1)) by rw [decide_eq_decide, List.cons.injEq, and_iff_right c]]
          exact ih () trivial
        · refine evNeg c ?_
          rw [show decide (a[i] :: t = b[i] :: b.drop (i + 1)) = false by rw [decide_eq_false_iff_not, List.cons.injEq]; exact fun e => c e.1]
          exact Ev.now _)
      () trivial
    refine Ev.congr (fun k => ?_) key
    simp only [laws_eqIntS.f]
    rw [if_pos (by omega)]
  · have ne : ¬ a = b := fun h => e (by rw [h])
    refine Ev.congr (f := fun _ => some (decide (a = b))) (fun k => ?_) (Ev.now _)
    simp only [laws_eqIntS.f]
    rw [if_neg (by omega), decide_eq_false ne]
theorem eqIntS_same {a : List Int} (ha : a.length ≤ 1048576) : Ev (fun k => laws_eqIntS.f k a a) true := by
  have := eqIntS_ev (a := a) (b := a) ha
  rwa [decide_eq_true rfl] at this

theorem l14Has_ev {l : List Int} (n : Int) (hl : l.length ≤ 100000000) : Ev (fun k => spec_l14Has.f k l n) (decide (n ∈ l)) := by
  have key := evScan l (fun k (_ : Unit) i => spec_l14Has.l0 k l n i) (fun _ _ t => decide (n ∈ t)) (fun _ _ => True) (fun _ _ => by
      refine Ev.step (f := fun _ => some false) (fun k => ?_) (Ev.now _)
      simp only [spec_l14Has.l0]
      rw [if_neg (by omega)]) (fun _ i t h ht _ ih => by
      have st : ∀ k, spec_l14Has.l0 (k + 1) l n (i : Int) = if l[i] = n then some true else spec_l14Has.l0 k l n ((i + 1 : Nat) : Int) := by
        intro k
        simp only [spec_l14Has.l0]
        rw [if_pos (by omega), if_pos (by omega), rdIn h, wrapSucc (by omega)]
      refine Ev.step st ?_
      by_cases c : l[i] = n
      · refine evPos c ?_
        simp only [List.mem_cons, c, true_or, decide_true]
        exact Ev.now _
      · refine evNeg c ?_
        have := ih () trivial
        have c' : ¬ n = l[i] := fun e => c e.symm
        simpa [c'] using this)
    () trivial
  unfold spec_l14Has.f
  exact key

/-- The index of a number in a list of which the first stands at i; -1 if it is not there. -/
def placeS (n : Int) : Nat → List Int → Int
  | _, [] => -1
  | i, y :: t => if y = n then (i : Int) else placeS n (i + 1) t
theorem placeS_mem (n : Int) : ∀ (t : List Int) (i : Nat), (0 ≤ placeS n i t) ↔ n ∈ t
  | [], i => by simp [placeS]
  | y :: t, i => by
    simp only [placeS]
    by_cases c : y = n
    · simp [c]
    · have c' : ¬ n = y := fun e => c e.symm
      rw [if_neg c, placeS_mem n t (i + 1)]
      simp [c']
theorem placeOf_ev {l : List Int} (n : Int) (hl : l.length ≤ 100000000) : Ev (fun k => impl_placeOf.f k l n) (placeS n 0 l) := by
  have key := evScan l (fun k (_ : Unit) i => impl_placeOf.l0 k n l (l.length : Int) i) (fun _ i t => placeS n i t) (fun _ _ => True) (fun _ _ => by
      refine Ev.step (f := fun _ => some (-1)) (fun k => ?_) (Ev.now _)
      simp only [impl_placeOf.l0]
      rw [if_neg (by omega)]) (fun _ i t h ht _ ih => by
      have st : ∀ k, impl_placeOf.l0 (k + 1) n l (l.length : Int) (i : Int) = if l[i] = n then some (i : Int) else impl_placeOf.l0 k n l (l.length : Int) ((i + 1 : Nat) : Int) := by
        intro k
        simp only [impl_placeOf.l0]
        rw [if_pos (by omega), if_pos (by omega), if_pos (by omega), rdIn h, wrapSucc (by omega)]
      refine Ev.step st ?_
      simp only [placeS]
      by_cases c : l[i] = n
      · rw [if_pos c]
        exact evPos c (Ev.now _)
      · rw [if_neg c]
        exact evNeg c (ih () trivial))
    () trivial
  unfold impl_placeOf.f
  exact key
theorem has_ev {l : List Int} (n : Int) (hl : l.length ≤ 100000000) : Ev (fun k => impl_has.f k l n) (decide (n ∈ l)) := by
  unfold impl_has.f
  refine Ev.bind (placeOf_ev n hl) ?_
  simp only [ge_iff_le, placeS_mem]
  exact Ev.now _

theorem spec_IsFound_ev {a b : List Int} (n : Int) (ha : a.length ≤ 1048576) (hb : b.length ≤ 1048576) : Ev (fun k => spec_IsFound.f k a b n) (decide (n ∈ a) && decide (n ∈ b)) := by
  unfold spec_IsFound.f
  refine Ev.bind (l14Has_ev n (by omega)) ?_
  by_cases c : n ∈ a
  · simp only [c, decide_true, if_true, Bool.true_and]
    exact Ev.bind (l14Has_ev n (by omega)) (Ev.now _)
  · simp only [c, decide_false, Bool.false_and]
    exact Ev.now _
theorem impl_IsFound_ev {a b : List Int} (n : Int) (ha : a.length ≤ 1048576) (hb : b.length ≤ 1048576) : Ev (fun k => impl_IsFound.f k a b n) (decide (n ∈ a) && decide (n ∈ b)) := by
  unfold impl_IsFound.f
  refine Ev.bind (has_ev n (by omega)) ?_
  by_cases c : n ∈ a
  · simp only [c, decide_true, if_true, Bool.true_and]
    exact Ev.bind (has_ev n (by omega)) (Ev.now _)
  · simp only [c, decide_false, Bool.false_and]
    exact Ev.now _
def FnExactIsFound.Claim : Prop := ∀ (l0 : List (Int)) (l1 : List (Int)) (a2 : Int), l0.length ≤ maxLen → (∀ x ∈ l0, (Lit.int .i64 x).wf = true) → l1.length ≤ maxLen → (∀ x ∈ l1, (Lit.int .i64 x).wf = true) → (Lit.int .i64 a2).wf = true → ∃ k, laws_FnExactIsFound.f k l0 l1 a2 = some true
theorem FnExactIsFound : FnExactIsFound.Claim := by
  intro a b n _ _ _ _ _
  apply Ev.rounds
  unfold laws_FnExactIsFound.f
  by_cases ca : (a.length : Int) > 1048576
  · exact evPos ca (Ev.now _)
  refine evNeg ca ?_
  by_cases cb : (b.length : Int) > 1048576
  · exact evPos cb (Ev.now _)
  refine evNeg cb ?_
  have ha : a.length ≤ 1048576 := by omega
  have hb : b.length ≤ 1048576 := by omega
  refine Ev.bind (toIntS_ev ha) (Ev.bind (toIntS_ev hb) (Ev.bind (spec_IsFound_ev n ha hb) (Ev.bind (toIntS_ev ha) (Ev.bind (toIntS_ev hb) (Ev.bind (impl_IsFound_ev n ha hb) ?_)))))
  simp only [bne_self_eq_false, Bool.false_eq_true, if_false]
  refine Ev.bind (toIntS_ev ha) (Ev.bind (eqIntS_same ha) ?_)
  simp only [if_true]
  refine Ev.bind (toIntS_ev hb) (Ev.bind (eqIntS_same hb) ?_)
  simp only [if_true]
  exact Ev.now _
end Go.Proofs.Ytkdclkbgejbgjaa.Pure
