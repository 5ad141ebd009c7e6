/- For every list of members, the program's Healthy and the reference's give the same list, new memory that nothing else changes: the law's Go function answers true. No condition beyond the kinds of the numbers. -/
import Derived.Test.YtkdclkbgejbgjadPFnExactHealthyx3
import Derived.Test.YtkdclkbgejbgjadAid
namespace Go.Proofs.Ytkdclkbgejbgjad.Pure
open Go.RowKit Go.Proofs.Ytkdclkbgejbgjad.PFnExactHealthy Go.Proofs.Ytkdclkbgejbgjad.Aid Go.Proofs.YtkdclkbgejbgjadW.PrintWords Go.Proofs.YtkdclkbgejbgjadW.PrintLast Go.Proofs.YtkdclkbgejbgjadW.PrintMore
set_option linter.unusedVariables false
set_option linter.unusedSimpArgs false
theorem szMemberS_ok {l : List S59} {q : Int} (hl : l.length ≤ maxLen) (h0 : 0 ≤ q) (h1 : q ≤ 1048576) : laws_szMemberS.f l q = some (if (l.length : Int) ≤ q then q - (l.length : Int) else -1) := by
  unfold laws_szMemberS.f
  unfold maxLen at hl
  rw [wrapId (n := q - (l.length : Int)) (by omega) (by omega)]
  by_cases c : (l.length : Int) ≤ q
  · rw [if_neg (by omega), if_pos c]
  · rw [if_pos (by omega), if_neg c]

def mem (x : S59) : S57 := ⟨x.f0, x.f1, x.f2, x.f3⟩
theorem rdM {xs : List S57} {i : Nat} (h : i < xs.length) : rd_T57 xs (i : Int) = xs[i] := by
  unfold rd_T57
  rw [Int.toNat_natCast, getD_lt h]
theorem rdLM {xs : List S59} {i : Nat} (h : i < xs.length) : rd_T59 xs (i : Int) = xs[i] := by
  unfold rd_T59
  rw [Int.toNat_natCast, getD_lt h]
theorem toMemberS_ev {l : List S59} (hl : l.length ≤ 1048576) : Ev (fun k => laws_toMemberS.f k l) (l.map mem) := by
  have key := evScan l (fun k (acc : List S57) i => laws_toMemberS.l0 k l acc i) (fun _ _ _ => l.map mem) (fun acc i => acc.length = (l.map mem).length ∧ acc.take i = (l.map mem).take i) (fun acc ⟨h0, h1⟩ => by
      refine Ev.step (f := fun _ => some acc) (fun k => ?_) ?_
      · simp only [laws_toMemberS.l0]
        rw [if_neg (by omega)]
      · rw [take_whole h0 (by rw [List.length_map]; exact h1)]
        exact Ev.now _) (fun acc i t h ht ⟨h0, h1⟩ ih => by
      have hm : i < (l.map mem).length := by rw [List.length_map]; exact h
      have hs := take_set_succ hm h0 h1
      rw [List.length_map] at h0
      refine Ev.step (fun k => ?_) (ih (acc.set i (l.map mem)[i]) ⟨by simpa using h0, hs⟩)
      simp only [laws_toMemberS.l0, laws_toMember.f, Option.bind_some]
      rw [if_pos (by omega), if_pos (by omega), if_pos (by omega), rdLM h, wrapSucc (by omega), toNatCast, List.getElem_map]
      rfl)
    (List.replicate l.length z57) ⟨by simp, by simp⟩
  refine Ev.congr (fun k => ?_) key
  simp only [laws_toMemberS.f]
  rw [if_pos (by omega), if_pos (by omega), toNatCast]

theorem eqMemberS_same {a : List S57} (ha : a.length ≤ 1048576) : Ev (fun k => laws_eqMemberS.f k a a) true := by
  have key := evScan a (fun k (_ : Unit) i => laws_eqMemberS.l0 k a a i) (fun _ _ _ => true) (fun _ _ => True) (fun _ _ => by
      refine Ev.step (f := fun _ => some true) (fun k => ?_) (Ev.now _)
      simp only [laws_eqMemberS.l0]
      rw [if_neg (by omega)]) (fun _ i t h _ _ ih => by
      refine Ev.step (fun k => ?_) (ih () trivial)
      simp only [laws_eqMemberS.l0, laws_eqMember.f, if_true, bne_self_eq_false, Bool.false_eq_true, if_false, Option.bind_some]
      rw [if_pos (by omega), if_pos (by omega), if_pos (by omega), wrapSucc (by omega)])
    () trivial
  refine Ev.congr (fun k => ?_) key
  simp only [laws_eqMemberS.f, if_true]

theorem eqIntS_ev {a b : List Int} (ha : a.length ≤ 1048576) : Ev (fun k => laws_eqIntS.f k a b) (decide (a = b)) := by
  by_cases e : a.length = b.length
  · have key := evScan a (fun k (_ : Unit) i => laws_eqIntS.l0 k a b i) (fun _ i t => decide (t = b.drop i)) (fun _ _ => True) (fun _ _ => by
        refine Ev.step (f := fun _ => some true) (fun k => ?_) ?_
        · simp only [laws_eqIntS.l0]
          rw [if_neg (by omega)]
        · rw [e, List.drop_length]
          exact Ev.now _) (fun _ i t h ht _ ih => by
        have hb : i < b.length := by omega
        have st : ∀ k, laws_eqIntS.l0 (k + 1) a b (i : Int) = if a[i] = b[i] then laws_eqIntS.l0 k a b ((i + 1 : Nat) : Int) else some false := by
          intro k
          simp only [laws_eqIntS.l0]
          rw [if_pos (by omega), if_pos (by omega), if_pos (by omega), rdIn h, rdIn hb, wrapSucc (by omega)]
        refine Ev.step st ?_
        rw [List.drop_eq_getElem_cons hb]
        by_cases c : a[i] = b[i]
        · refine evPos c ?_
          rw [show decide (a[i] :: t = b[i] :: b.drop (i + 1)) = decide (t = b.drop (i + 1)) by rw [decide_eq_decide, List.cons.injEq, and_iff_right c]]
          exact ih () trivial
        · refine evNeg c ?_
          rw [show decide (a[i] :: t = b[i] :: b.drop (i + 1)) = false by rw [decide_eq_false_iff_not, List.cons.injEq]; exact fun e => c e.1]
          exact Ev.now _)
      () trivial
    refine Ev.congr (fun k => ?_) key
    simp only [laws_eqIntS.f]
    rw [if_pos (by omega)]
  · have ne : ¬ a = b := fun h => e (by rw [h])
    refine Ev.congr (f := fun _ => some (decide (a = b))) (fun k => ?_) (Ev.now _)
    simp only [laws_eqIntS.f]
    rw [if_neg (by omega), decide_eq_false ne]
theorem eqIntS_same {a : List Int} (ha : a.length ≤ 1048576) : Ev (fun k => laws_eqIntS.f k a a) true := by
  have := eqIntS_ev (a := a) (b := a) ha
  rwa [decide_eq_true rfl] at this

theorem markIntS_ev {l : List Int} {q : Int} (hl : l.length ≤ 1048576) (h0 : 0 ≤ q) (h1 : q ≤ 1000000000000) : Ev (fun k => laws_markIntS.f k l q) (q + (l.length : Int), seqFrom q l.length) := by
  have key := evScan l (fun k (s : List Int × Int) i => laws_markIntS.l0 k s.1 s.2 i) (fun _ _ _ => (q + (l.length : Int), seqFrom q l.length)) (fun s i => s.1.length = l.length ∧ s.1.take i = (seqFrom q l.length).take i ∧ s.2 = q + (i : Int)) (fun s ⟨g0, g1, g2⟩ => by
      refine Ev.step (f := fun _ => some (s.2, s.1)) (fun k => ?_) ?_
      · simp only [laws_markIntS.l0]
        rw [if_neg (by omega)]
      · have : s.1 = seqFrom q l.length := take_whole (by rw [seqFrom_length]; exact g0) (by rw [seqFrom_length]; exact g1)
        rw [this, g2]
        exact Ev.now _) (fun s i t h ht ⟨g0, g1, g2⟩ ih => by
      have hs : i < (seqFrom q l.length).length := by rw [seqFrom_length]; exact h
      have e := take_set_succ hs (by rw [seqFrom_length]; exact g0) g1
      rw [seqFrom_at] at e
      refine Ev.step (fun k => ?_) (ih (s.1.set i (q + (i : Int)), q + (i : Int) + 1) ⟨by simpa using g0, e, by simp only [Int.natCast_add]; omega⟩)
      simp only [laws_markIntS.l0]
      rw [if_pos (by omega), if_pos (by omega), g2, toNatCast, wrapSucc (by omega), wrapId (n := q + (i : Int) + 1) (by omega) (by omega)])
    (l, q) ⟨rfl, by simp, by simp⟩
  unfold laws_markIntS.f
  exact key
theorem heldIntS_ev {n : Nat} {q : Int} (hl : n ≤ 1048576) (h0 : 0 ≤ q) (h1 : q ≤ 1000000000000) : Ev (fun k => laws_heldIntS.f k (seqFrom q n) q) (q + (n : Int)) := by
  have key := evScan (seqFrom q n) (fun k (s : Int) i => laws_heldIntS.l0 k (seqFrom q n) s i) (fun _ _ _ => q + (n : Int)) (fun s i => s = q + (i : Int)) (fun s g => by
      refine Ev.step (f := fun _ => some s) (fun k => ?_) ?_
      · simp only [laws_heldIntS.l0]
        rw [if_neg (by omega)]
      · rw [g, seqFrom_length]
        exact Ev.now _) (fun s i t h ht g ih => by
      have hn : i < n := by rw [seqFrom_length] at h; exact h
      refine Ev.step (fun k => ?_) (ih (q + (i : Int) + 1) (by simp only [Int.natCast_add]; omega))
      simp only [laws_heldIntS.l0]
      rw [if_pos (by omega), if_pos (by omega), rdIn h, seqFrom_at, g, if_pos rfl, wrapSucc (by omega), wrapId (n := q + (i : Int) + 1) (by omega) (by omega)])
    q (by simp)
  unfold laws_heldIntS.f
  exact key

def healthy (l : List S57) : List Int := (l.filter (fun m => !m.f3)).map (·.f0)
theorem healthy_len (l : List S57) : (healthy l).length ≤ l.length := by
  unfold healthy
  rw [List.length_map]
  exact List.length_filter_le _ _
theorem impl_Healthy_ev {l : List S57} (hl : l.length ≤ 100000000) : Ev (fun k => impl_Healthy.f k l) (healthy l) := by
  have key := evScan l (fun k (acc : List Int) i => impl_Healthy.l0 k acc l (l.length : Int) i) (fun acc i t => acc ++ healthy t) (fun acc i => acc.length ≤ i) (fun acc _ => by
      rw [show acc ++ healthy [] = acc by simp [healthy]]
      refine Ev.step (f := fun _ => some acc) (fun k => ?_) (Ev.now _)
      simp only [impl_Healthy.l0]
      rw [if_neg (by omega)]) (fun acc i t h _ hi ih => by
      have st : ∀ k, impl_Healthy.l0 (k + 1) acc l (l.length : Int) (i : Int) = if l[i].f3 = true then impl_Healthy.l0 k acc l (l.length : Int) ((i + 1 : Nat) : Int) else impl_Healthy.l0 k (acc ++ [l[i].f0]) l (l.length : Int) ((i + 1 : Nat) : Int) := by
        intro k
        simp only [impl_Healthy.l0]
        rw [if_pos (by omega), if_pos (by omega), if_pos (by omega), rdM h, wrapSucc (by omega), if_pos (show acc.length < 17592186044416 by omega)]
      refine Ev.step st ?_
      by_cases d : l[i].f3 = true
      · refine evPos d ?_
        have := ih acc (by omega)
        simpa [healthy, d] using this
      · refine evNeg d ?_
        have := ih (acc ++ [l[i].f0]) (by simp; omega)
        simpa [healthy, d] using this)
    [] (by simp)
  unfold impl_Healthy.f
  simpa using key

theorem spec_Healthy_ev {l : List S57} (hl : l.length ≤ 100000000) : Ev (fun k => spec_Healthy.f k l) (healthy l) := by
  have key := evScan l (fun k (acc : List Int) i => spec_Healthy.l0 k l acc i) (fun acc i t => acc ++ healthy t) (fun acc i => acc.length ≤ i) (fun acc _ => by
      rw [show acc ++ healthy [] = acc by simp [healthy]]
      refine Ev.step (f := fun _ => some acc) (fun k => ?_) (Ev.now _)
      simp only [spec_Healthy.l0]
      rw [if_neg (by omega)]) (fun acc i t h _ hi ih => by
      have st : ∀ k, spec_Healthy.l0 (k + 1) l acc (i : Int) = if l[i].f3 = true then spec_Healthy.l0 k l acc ((i + 1 : Nat) : Int) else spec_Healthy.l0 k l (acc ++ [l[i].f0]) ((i + 1 : Nat) : Int) := by
        intro k
        simp only [spec_Healthy.l0]
        rw [if_pos (by omega), if_pos (by omega), rdM h, wrapSucc (by omega), if_pos (show acc.length < 17592186044416 by omega)]
      refine Ev.step st ?_
      by_cases d : l[i].f3 = true
      · refine evPos d ?_
        have := ih acc (by omega)
        simpa [healthy, d] using this
      · refine evNeg d ?_
        have := ih (acc ++ [l[i].f0]) (by simp; omega)
        simpa [healthy, d] using this)
    [] (by simp)
  unfold spec_Healthy.f
  simpa using key

def markM (q : Int) (i : Nat) : S57 := ⟨q + 4 * (i : Int), q + 4 * (i : Int) + 1, q + 4 * (i : Int) + 1 + 1, (Int.tmod (q + 4 * (i : Int) + 1 + 1 + 1) 3 == 0)⟩
def marksM (q : Int) (n : Nat) : List S57 := (List.range n).map (markM q)
theorem marksM_length (q : Int) (n : Nat) : (marksM q n).length = n := by simp [marksM]
theorem marksM_at (q : Int) (n i : Nat) (h : i < (marksM q n).length) : (marksM q n)[i] = markM q i := by simp [marksM]
theorem rdMset {xs : List S57} {i : Nat} (v : S57) (h : i < xs.length) : rd_T57 (xs.set i v) (i : Int) = v := by
  rw [rdM (by simpa using h), List.getElem_set_self]
theorem markMemberS_ev {l : List S57} {q : Int} (hl : l.length ≤ 2000000) (h0 : 0 ≤ q) (h1 : q ≤ 1000000000000) : Ev (fun k => laws_markMemberS.f k l q) (q + 4 * (l.length : Int), marksM q l.length) := by
  have key := evScan l (fun k (s : List S57 × Int) i => laws_markMemberS.l0 k s.1 s.2 i) (fun _ _ _ => (q + 4 * (l.length : Int), marksM q l.length)) (fun s i => s.1.length = l.length ∧ s.1.take i = (marksM q l.length).take i ∧ s.2 = q + 4 * (i : Int)) (fun s ⟨g0, g1, g2⟩ => by
      refine Ev.step (f := fun _ => some (s.2, s.1)) (fun k => ?_) ?_
      · simp only [laws_markMemberS.l0]
        rw [if_neg (by omega)]
      · have : s.1 = marksM q l.length := take_whole (by rw [marksM_length]; exact g0) (by rw [marksM_length]; exact g1)
        rw [this, g2]
        exact Ev.now _) (fun s i t h _ ⟨g0, g1, g2⟩ ih => by
      have hs : i < (marksM q l.length).length := by rw [marksM_length]; exact h
      have e := take_set_succ hs (by rw [marksM_length]; exact g0) g1
      rw [marksM_at] at e
      have g3 : i < s.1.length := by omega
      refine Ev.step (fun k => ?_) (ih (s.1.set i (markM q i), q + 4 * (i : Int) + 1 + 1 + 1 + 1) ⟨by simpa using g0, e, by simp only [Int.natCast_add]; omega⟩)
      simp only [laws_markMemberS.l0, Option.bind_some, toNatCast, rdMset _ g3, List.set_set, g2]
      rw [if_pos (by omega), if_pos (by omega), wrapSucc (by omega), wrapId (n := q + 4 * (i : Int) + 1) (by omega) (by omega), wrapId (n := q + 4 * (i : Int) + 1 + 1) (by omega) (by omega), wrapId (n := q + 4 * (i : Int) + 1 + 1 + 1) (by omega) (by omega), wrapId (n := q + 4 * (i : Int) + 1 + 1 + 1 + 1) (by omega) (by omega)]
      rfl)
    (l, q) ⟨rfl, by simp, by simp⟩
  unfold laws_markMemberS.f
  exact key

def okS59 (x : S59) : Prop := (Lit.int .i64 x.f0).wf = true ∧ (Lit.int .i64 x.f1).wf = true ∧ (Lit.int .i64 x.f2).wf = true ∧ True
def FnExactHealthy.Claim : Prop := ∀ (l0 : List (S59)), l0.length ≤ maxLen → (∀ x ∈ l0, okS59 x) → ∃ k, laws_FnExactHealthy.f k l0 = some true
theorem FnExactHealthy : FnExactHealthy.Claim := by
  intro l hm _
  apply Ev.rounds
  unfold laws_FnExactHealthy.f
  rw [szMemberS_ok hm (by omega) (by omega)]
  simp only [Option.bind_some]
  by_cases c : (l.length : Int) ≤ 1048576
  · rw [if_pos c]
    refine evNeg (by omega) ?_
    have hl : l.length ≤ 1048576 := by omega
    have hl' : (l.map mem).length ≤ 1048576 := by rw [List.length_map]; exact hl
    have hh : (healthy (l.map mem)).length ≤ 1048576 := Nat.le_trans (healthy_len _) hl'
    refine Ev.bind (toMemberS_ev hl) (Ev.bind (spec_Healthy_ev (by omega)) (Ev.bind (toMemberS_ev hl) (Ev.bind (impl_Healthy_ev (by omega)) (Ev.bind (eqIntS_same hh) (evPos rfl (Ev.bind (toMemberS_ev hl) (Ev.bind (eqMemberS_same hl') (evPos rfl (Ev.bind (markMemberS_ev (by omega) (by omega) (by omega)) ?_)))))))))
    refine evNeg (by omega) (Ev.bind (eqIntS_same hh) ?_)
    simp only [Bool.not_true]
    refine Ev.step (fun k => rfl) ?_
    simp only [laws_FnExactHealthy.j0, Bool.false_eq_true, if_false]
    refine Ev.bind (markIntS_ev hh (by omega) (by omega)) (Ev.bind (heldIntS_ev hh (by omega) (by omega)) ?_)
    refine evNeg (by omega) (evPos rfl ?_)
    refine Ev.bind (toMemberS_ev hl) (Ev.bind (impl_Healthy_ev (by omega)) (Ev.bind (eqIntS_same hh) (evPos rfl (Ev.bind (heldIntS_ev hh (by omega) (by omega)) ?_))))
    exact evNeg (by omega) (evPos rfl (Ev.now _))
  · rw [if_neg c]
    exact evPos (by omega) (Ev.now _)
end Go.Proofs.Ytkdclkbgejbgjad.Pure
