/- For all pairs of lists, the program's StillIn and the reference's give the same list, new memory that nothing else changes: the law's Go function answers true. No condition beyond the kinds of the numbers. -/
import Derived.Test.YtkdclkbgejbgjacPFnExactStillInx2
import Derived.Test.YtkdclkbgejbgjacAid
namespace Go.Proofs.Ytkdclkbgejbgjac.Pure
open Go.RowKit Go.Proofs.Ytkdclkbgejbgjac.PFnExactStillIn Go.Proofs.Ytkdclkbgejbgjac.Aid Go.Proofs.YtkdclkbgejbgjacW.PrintWords Go.Proofs.YtkdclkbgejbgjacW.PrintLast Go.Proofs.YtkdclkbgejbgjacW.PrintMore
set_option linter.unusedVariables false
set_option linter.unusedSimpArgs false
theorem toIntS_ev {l : List Int} (hl : l.length ≤ 1048576) : Ev (fun k => laws_toIntS.f k l) l := by
  have key := evScan l (fun k (acc : List Int) i => laws_toIntS.l0 k l acc i) (fun _ _ _ => l) (fun acc i => acc.length = l.length ∧ acc.take i = l.take i) (fun acc ⟨h0, h1⟩ => by
      refine Ev.step (f := fun _ => some acc) (fun k => ?_) ?_
      · simp only [laws_toIntS.l0]
        rw [if_neg (by omega)]
      · rw [take_whole h0 h1]
        exact Ev.now _) (fun acc i t h ht ⟨h0, h1⟩ ih => by
      refine Ev.step (fun k => ?_) (ih (acc.set i l[i]) ⟨by simpa using h0, take_set_succ h h0 h1⟩)
      simp only [laws_toIntS.l0]
      rw [if_pos (by omega), if_pos (by omega), if_pos (by omega), rdIn h, wrapSucc (by omega), toNatCast])
    (List.replicate l.length 0) ⟨by simp, by simp⟩
  refine Ev.congr (fun k => ?_) key
  simp only [laws_toIntS.f]
  rw [if_pos (by omega), if_pos (by omega), toNatCast]
theorem eqIntS_ev {a b : List Int} (ha : a.length ≤ 1048576) : Ev (fun k => laws_eqIntS.f k a b) (decide (a = b)) := by
  by_cases e : a.length = b.length
  · have key := evScan a (fun k (_ : Unit) i => laws_eqIntS.l0 k a b i) (fun _ i t => decide (t = b.drop i)) (fun _ _ => True) (fun _ _ => by
        refine Ev.step (f := fun _ => some true) (fun k => ?_) ?_
        · simp only [laws_eqIntS.l0]
          rw [if_neg (by omega)]
        · rw [e, List.drop_length]
          exact Ev.now _) (fun _ i t h ht _ ih => by
        have hb : i < b.length := by omega
        have st : ∀ k, laws_eqIntS.l0 (k + 1) a b (i : Int) = if a[i] = b[i] then laws_eqIntS.l0 k a b ((i + 1 : Nat) : Int) else some false := by
          intro k
          simp only [laws_eqIntS.l0]
          rw [if_pos (by omega), if_pos (by omega), if_pos (by omega), rdIn h, rdIn hb, wrapSucc (by omega)]
        refine Ev.step st ?_
        rw [List.drop_eq_getElem_cons hb]
        by_cases c : a[i] = b[i]
        · refine evPos c ?_
          rw [show decide (a[i] :: t = b[i] :: b.drop (i + 1)) = decide (t = b.drop (i + 1)) by rw [decide_eq_decide, List.cons.injEq, and_iff_right c]]
          exact ih () trivial
        · refine evNeg c ?_
          rw [show decide (a[i] :: t = b[i] :: b.drop (i + 1)) = false by rw [decide_eq_false_iff_not, List.cons.injEq]; exact fun e => c e.1]
          exact Ev.now _)
      () trivial
    refine Ev.congr (fun k => ?_) key
    simp only [laws_eqIntS.f]
    rw [if_pos (by omega)]
  · have ne : ¬ a = b := fun h => e (by rw [h])
    refine Ev.congr (f := fun _ => some (decide (a = b))) (fun k => ?_) (Ev.now _)
    simp only [laws_eqIntS.f]
    rw [if_neg (by omega), decide_eq_false ne]
theorem eqIntS_same {a : List Int} (ha : a.length ≤ 1048576) : Ev (fun k => laws_eqIntS.f k a a) true := by
  have := eqIntS_ev (a := a) (b := a) ha
  rwa [decide_eq_true rfl] at this

theorem markIntS_ev {l : List Int} {q : Int} (hl : l.length ≤ 1048576) (h0 : 0 ≤ q) (h1 : q ≤ 1000000000000) : Ev (fun k => laws_markIntS.f k l q) (q + (l.length : Int), seqFrom q l.length) := by
  have key := evScan l (fun k (s : List Int × Int) i => laws_markIntS.l0 k s.1 s.2 i) (fun _ _ _ => (q + (l.length : Int), seqFrom q l.length)) (fun s i => s.1.length = l.length ∧ s.1.take i = (seqFrom q l.length).take i ∧ s.2 = q + (i : Int)) (fun s ⟨g0, g1, g2⟩ => by
      refine Ev.step (f := fun _ => some (s.2, s.1)) (fun k => ?_) ?_
      · simp only [laws_markIntS.l0]
        rw [if_neg (by omega)]
      · have : s.1 = seqFrom q l.length := take_whole (by rw [seqFrom_length]; exact g0) (by rw [seqFrom_length]; exact g1)
        rw [this, g2]
        exact Ev.now _) (fun s i t h ht ⟨g0, g1, g2⟩ ih => by
      have hs : i < (seqFrom q l.length).length := by rw [seqFrom_length]; exact h
      have e := take_set_succ hs (by rw [seqFrom_length]; exact g0) g1
      rw [seqFrom_at] at e
      refine Ev.step (fun k => ?_) (ih (s.1.set i (q + (i : Int)), q + (i : Int) + 1) ⟨by simpa using g0, e, by simp only [Int.natCast_add]; omega⟩)
      simp only [laws_markIntS.l0]
      rw [if_pos (by omega), if_pos (by omega), g2, toNatCast, wrapSucc (by omega), wrapId (n := q + (i : Int) + 1) (by omega) (by omega)])
    (l, q) ⟨rfl, by simp, by simp⟩
  unfold laws_markIntS.f
  exact key
theorem heldIntS_ev {n : Nat} {q : Int} (hl : n ≤ 1048576) (h0 : 0 ≤ q) (h1 : q ≤ 1000000000000) : Ev (fun k => laws_heldIntS.f k (seqFrom q n) q) (q + (n : Int)) := by
  have key := evScan (seqFrom q n) (fun k (s : Int) i => laws_heldIntS.l0 k (seqFrom q n) s i) (fun _ _ _ => q + (n : Int)) (fun s i => s = q + (i : Int)) (fun s g => by
      refine Ev.step (f := fun _ => some s) (fun k => ?_) ?_
      · simp only [laws_heldIntS.l0]
        rw [if_neg (by omega)]
      · rw [g, seqFrom_length]
        exact Ev.now _) (fun s i t h ht g ih => by
      have hn : i < n := by rw [seqFrom_length] at h; exact h
      refine Ev.step (fun k => ?_) (ih (q + (i : Int) + 1) (by simp only [Int.natCast_add]; omega))
      simp only [laws_heldIntS.l0]
      rw [if_pos (by omega), if_pos (by omega), rdIn h, seqFrom_at, g, if_pos rfl, wrapSucc (by omega), wrapId (n := q + (i : Int) + 1) (by omega) (by omega)])
    q (by simp)
  unfold laws_heldIntS.f
  exact key

theorem l14Has_ev {l : List Int} (n : Int) (hl : l.length ≤ 100000000) : Ev (fun k => spec_l14Has.f k l n) (decide (n ∈ l)) := by
  have key := evScan l (fun k (_ : Unit) i => spec_l14Has.l0 k l n i) (fun _ _ t => decide (n ∈ t)) (fun _ _ => True) (fun _ _ => by
      refine Ev.step (f := fun _ => some false) (fun k => ?_) (Ev.now _)
      simp only [spec_l14Has.l0]
      rw [if_neg (by omega)]) (fun _ i t h ht _ ih => by
      have st : ∀ k, spec_l14Has.l0 (k + 1) l n (i : Int) = if l[i] = n then some true else spec_l14Has.l0 k l n ((i + 1 : Nat) : Int) := by
        intro k
        simp only [spec_l14Has.l0]
        rw [if_pos (by omega), if_pos (by omega), rdIn h, wrapSucc (by omega)]
      refine Ev.step st ?_
      by_cases c : l[i] = n
      · refine evPos c ?_
        simp only [List.mem_cons, c, true_or, decide_true]
        exact Ev.now _
      · refine evNeg c ?_
        have := ih () trivial
        have c' : ¬ n = l[i] := fun e => c e.symm
        simpa [c'] using this)
    () trivial
  unfold spec_l14Has.f
  exact key

/-- The index of a number in a list of which the first stands at i; -1 if it is not there. -/
def placeS (n : Int) : Nat → List Int → Int
  | _, [] => -1
  | i, y :: t => if y = n then (i : Int) else placeS n (i + 1) t
theorem placeS_mem (n : Int) : ∀ (t : List Int) (i : Nat), (0 ≤ placeS n i t) ↔ n ∈ t
  | [], i => by simp [placeS]
  | y :: t, i => by
    simp only [placeS]
    by_cases c : y = n
    · simp [c]
    · have c' : ¬ n = y := fun e => c e.symm
      rw [if_neg c, placeS_mem n t (i + 1)]
      simp [c']
theorem placeOf_ev {l : List Int} (n : Int) (hl : l.length ≤ 100000000) : Ev (fun k => impl_placeOf.f k l n) (placeS n 0 l) := by
  have key := evScan l (fun k (_ : Unit) i => impl_placeOf.l0 k n l (l.length : Int) i) (fun _ i t => placeS n i t) (fun _ _ => True) (fun _ _ => by
      refine Ev.step (f := fun _ => some (-1)) (fun k => ?_) (Ev.now _)
      simp only [impl_placeOf.l0]
      rw [if_neg (by omega)]) (fun _ i t h ht _ ih => by
      have st : ∀ k, impl_placeOf.l0 (k + 1) n l (l.length : Int) (i : Int) = if l[i] = n then some (i : Int) else impl_placeOf.l0 k n l (l.length : Int) ((i + 1 : Nat) : Int) := by
        intro k
        simp only [impl_placeOf.l0]
        rw [if_pos (by omega), if_pos (by omega), if_pos (by omega), rdIn h, wrapSucc (by omega)]
      refine Ev.step st ?_
      simp only [placeS]
      by_cases c : l[i] = n
      · rw [if_pos c]
        exact evPos c (Ev.now _)
      · rw [if_neg c]
        exact evNeg c (ih () trivial))
    () trivial
  unfold impl_placeOf.f
  exact key
theorem has_ev {l : List Int} (n : Int) (hl : l.length ≤ 100000000) : Ev (fun k => impl_has.f k l n) (decide (n ∈ l)) := by
  unfold impl_has.f
  refine Ev.bind (placeOf_ev n hl) ?_
  simp only [ge_iff_le, placeS_mem]
  exact Ev.now _

def leftS (a b : List Int) : List Int := a.filter (fun n => !decide (n ∈ b))
theorem spec_StillIn_ev {a b : List Int} (ha : a.length ≤ 100000000) (hb : b.length ≤ 100000000) : Ev (fun k => spec_StillIn.f k a b) (leftS a b) := by
  have key := evScan a (fun k (acc : List Int) i => spec_StillIn.l0 k a b acc i) (fun acc _ t => acc ++ leftS t b) (fun acc i => acc.length ≤ i) (fun acc _ => by
      refine Ev.step (f := fun _ => some acc) (fun k => ?_) ?_
      · simp only [spec_StillIn.l0]
        rw [if_neg (by omega)]
      · simp only [leftS, List.filter_nil, List.append_nil]
        exact Ev.now _) (fun acc i t h ht hi ih => by
      have st : ∀ k, spec_StillIn.l0 (k + 1) a b acc (i : Int) = (spec_l14Has.f k b a[i]).bind fun t => if t = true then spec_StillIn.l0 k a b acc ((i + 1 : Nat) : Int) else spec_StillIn.l0 k a b (acc ++ [a[i]]) ((i + 1 : Nat) : Int) := by
        intro k
        simp only [spec_StillIn.l0]
        rw [if_pos (by omega), if_pos (by omega), rdIn h, wrapSucc (by omega)]
        congr 1
        funext t
        rw [if_pos (show acc.length < 17592186044416 by omega)]
      refine Ev.step st (Ev.bind (l14Has_ev a[i] hb) ?_)
      by_cases c : a[i] ∈ b
      · simp only [c, decide_true, if_true]
        have := ih acc (by omega)
        simpa [leftS, c] using this
      · simp only [c, decide_false]
        have := ih (acc ++ [a[i]]) (by simp; omega)
        simpa [leftS, c] using this)
    [] (by simp)
  unfold spec_StillIn.f
  simpa using key
theorem impl_StillIn_ev {a b : List Int} (ha : a.length ≤ 100000000) (hb : b.length ≤ 100000000) : Ev (fun k => impl_StillIn.f k a b) (leftS a b) := by
  have key := evScan a (fun k (acc : List Int) i => impl_StillIn.l0 k b acc a (a.length : Int) i) (fun acc _ t => acc ++ leftS t b) (fun acc i => acc.length ≤ i) (fun acc _ => by
      refine Ev.step (f := fun _ => some acc) (fun k => ?_) ?_
      · simp only [impl_StillIn.l0]
        rw [if_neg (by omega)]
      · simp only [leftS, List.filter_nil, List.append_nil]
        exact Ev.now _) (fun acc i t h ht hi ih => by
      have st : ∀ k, impl_StillIn.l0 (k + 1) b acc a (a.length : Int) (i : Int) = (impl_has.f k b a[i]).bind fun t => if t = true then impl_StillIn.l0 k b acc a (a.length : Int) ((i + 1 : Nat) : Int) else impl_StillIn.l0 k b (acc ++ [a[i]]) a (a.length : Int) ((i + 1 : Nat) : Int) := by
        intro k
        simp only [impl_StillIn.l0]
        rw [if_pos (by omega), if_pos (by omega), if_pos (by omega), rdIn h, wrapSucc (by omega)]
        congr 1
        funext t
        rw [if_pos (show acc.length < 17592186044416 by omega)]
      refine Ev.step st (Ev.bind (has_ev a[i] hb) ?_)
      by_cases c : a[i] ∈ b
      · simp only [c, decide_true, if_true]
        have := ih acc (by omega)
        simpa [leftS, c] using this
      · simp only [c, decide_false]
        have := ih (acc ++ [a[i]]) (by simp; omega)
        simpa [leftS, c] using this)
    [] (by simp)
  unfold impl_StillIn.f
  simpa using key

def FnExactStillIn.Claim : Prop := ∀ (l0 : List (Int)) (l1 : List (Int)), l0.length ≤ maxLen → (∀ x ∈ l0, (Lit.int .i64 x).wf = true) → l1.length ≤ maxLen → (∀ x ∈ l1, (Lit.int .i64 x).wf = true) → ∃ k, laws_FnExactStillIn.f k l0 l1 = some true
theorem FnExactStillIn : FnExactStillIn.Claim := by
  intro a b _ _ _ _
  apply Ev.rounds
  unfold laws_FnExactStillIn.f
  by_cases ca : (a.length : Int) > 1048576
  · exact evPos ca (Ev.now _)
  refine evNeg ca ?_
  by_cases cb : (b.length : Int) > 1048576
  · exact evPos cb (Ev.now _)
  refine evNeg cb ?_
  have ha : a.length ≤ 1048576 := by omega
  have hb : b.length ≤ 1048576 := by omega
  have hc : (leftS a b).length ≤ 1048576 := Nat.le_trans (List.length_filter_le _ _) ha
  refine Ev.bind (toIntS_ev ha) (Ev.bind (toIntS_ev hb) (Ev.bind (spec_StillIn_ev (by omega) (by omega)) (Ev.bind (toIntS_ev ha) (Ev.bind (toIntS_ev hb) (Ev.bind (impl_StillIn_ev (by omega) (by omega)) (Ev.bind (eqIntS_same hc) ?_))))))
  simp only [if_true]
  refine Ev.bind (toIntS_ev ha) (Ev.bind (eqIntS_same ha) ?_)
  simp only [if_true]
  refine Ev.bind (toIntS_ev hb) (Ev.bind (eqIntS_same hb) ?_)
  simp only [if_true]
  refine Ev.bind (markIntS_ev ha (by omega) (by omega)) (Ev.bind (markIntS_ev hb (by omega) (by omega)) ?_)
  refine evNeg (by omega) ?_
  refine Ev.bind (eqIntS_same hc) ?_
  simp only [Bool.not_true]
  refine Ev.step (fun k => rfl) ?_
  simp only [laws_FnExactStillIn.j0, Bool.false_eq_true, if_false]
  refine Ev.bind (markIntS_ev hc (by omega) (by omega)) (Ev.bind (heldIntS_ev hc (by omega) (by omega)) ?_)
  refine evNeg (by omega) (evPos rfl ?_)
  refine Ev.bind (toIntS_ev ha) (Ev.bind (toIntS_ev hb) (Ev.bind (impl_StillIn_ev (by omega) (by omega)) (Ev.bind (eqIntS_same hc) ?_)))
  simp only [if_true]
  refine Ev.bind (heldIntS_ev hc (by omega) (by omega)) ?_
  exact evNeg (by omega) (evPos rfl (Ev.now _))
end Go.Proofs.Ytkdclkbgejbgjac.Pure
