/- For every two parties, the program's EqualParties and the reference's give the same answer: the law's Go function answers true. No condition beyond the kinds of the numbers. -/
import Derived.Test.YtkdclkbgejbgjaePFnExactEqualPartiesx5
import Derived.Test.YtkdclkbgejbgjaeAid
namespace Go.Proofs.Ytkdclkbgejbgjae.Pure
open Go.RowKit Go.Proofs.Ytkdclkbgejbgjae.PFnExactEqualParties Go.Proofs.Ytkdclkbgejbgjae.Aid Go.Proofs.YtkdclkbgejbgjaeW.PrintWords Go.Proofs.YtkdclkbgejbgjaeW.PrintLast Go.Proofs.YtkdclkbgejbgjaeW.PrintMore
set_option linter.unusedVariables false
set_option linter.unusedSimpArgs false
theorem szMemberS_ok {l : List S93} {q : Int} (hl : l.length ≤ maxLen) (h0 : 0 ≤ q) (h1 : q ≤ 1048576) : laws_szMemberS.f l q = some (if (l.length : Int) ≤ q then q - (l.length : Int) else -1) := by
  unfold laws_szMemberS.f
  unfold maxLen at hl
  rw [wrapId (n := q - (l.length : Int)) (by omega) (by omega)]
  by_cases c : (l.length : Int) ≤ q
  · rw [if_neg (by omega), if_pos c]
  · rw [if_pos (by omega), if_neg c]

theorem rdM {xs : List S71} {i : Nat} (h : i < xs.length) : rd_T71 xs (i : Int) = xs[i] := by
  unfold rd_T71
  rw [Int.toNat_natCast, getD_lt h]

def mem (x : S93) : S71 := ⟨x.f0, x.f1, x.f2, x.f3⟩
theorem rdLM {xs : List S93} {i : Nat} (h : i < xs.length) : rd_T93 xs (i : Int) = xs[i] := by
  unfold rd_T93
  rw [Int.toNat_natCast, getD_lt h]
theorem toMemberS_ev {l : List S93} (hl : l.length ≤ 1048576) : Ev (fun k => laws_toMemberS.f k l) (l.map mem) := by
  have key := evScan l (fun k (acc : List S71) i => laws_toMemberS.l0 k l acc i) (fun _ _ _ => l.map mem) (fun acc i => acc.length = (l.map mem).length ∧ acc.take i = (l.map mem).take i) (fun acc ⟨h0, h1⟩ => by
      refine Ev.step (f := fun _ => some acc) (fun k => ?_) ?_
      · simp only [laws_toMemberS.l0]
        rw [if_neg (by omega)]
      · rw [take_whole h0 (by rw [List.length_map]; exact h1)]
        exact Ev.now _) (fun acc i t h ht ⟨h0, h1⟩ ih => by
      have hm : i < (l.map mem).length := by rw [List.length_map]; exact h
      have hs := take_set_succ hm h0 h1
      rw [List.length_map] at h0
      refine Ev.step (fun k => ?_) (ih (acc.set i (l.map mem)[i]) ⟨by simpa using h0, hs⟩)
      simp only [laws_toMemberS.l0, laws_toMember.f, Option.bind_some]
      rw [if_pos (by omega), if_pos (by omega), if_pos (by omega), rdLM h, wrapSucc (by omega), toNatCast, List.getElem_map]
      rfl)
    (List.replicate l.length z71) ⟨by simp, by simp⟩
  refine Ev.congr (fun k => ?_) key
  simp only [laws_toMemberS.f]
  rw [if_pos (by omega), if_pos (by omega), toNatCast]

theorem eqMemberS_same {a : List S71} (ha : a.length ≤ 1048576) : Ev (fun k => laws_eqMemberS.f k a a) true := by
  have key := evScan a (fun k (_ : Unit) i => laws_eqMemberS.l0 k a a i) (fun _ _ _ => true) (fun _ _ => True) (fun _ _ => by
      refine Ev.step (f := fun _ => some true) (fun k => ?_) (Ev.now _)
      simp only [laws_eqMemberS.l0]
      rw [if_neg (by omega)]) (fun _ i t h _ _ ih => by
      refine Ev.step (fun k => ?_) (ih () trivial)
      simp only [laws_eqMemberS.l0, laws_eqMember.f, if_true, bne_self_eq_false, Bool.false_eq_true, if_false, Option.bind_some]
      rw [if_pos (by omega), if_pos (by omega), if_pos (by omega), wrapSucc (by omega)])
    () trivial
  refine Ev.congr (fun k => ?_) key
  simp only [laws_eqMemberS.f, if_true]

theorem rdOfIn {xs : List Bool} {i : Nat} (h : i < xs.length) : rdOf false xs (i : Int) = xs[i] := by
  unfold rdOf
  rw [Int.toNat_natCast, getD_lt h]
theorem toBoolS_ev {l : List Bool} (hl : l.length ≤ 1048576) : Ev (fun k => laws_toBoolS.f k l) l := by
  have key := evScan l (fun k (acc : List Bool) i => laws_toBoolS.l0 k l acc i) (fun _ _ _ => l) (fun acc i => acc.length = l.length ∧ acc.take i = l.take i) (fun acc ⟨h0, h1⟩ => by
      refine Ev.step (f := fun _ => some acc) (fun k => ?_) ?_
      · simp only [laws_toBoolS.l0]
        rw [if_neg (by omega)]
      · rw [take_whole h0 h1]
        exact Ev.now _) (fun acc i t h ht ⟨h0, h1⟩ ih => by
      refine Ev.step (fun k => ?_) (ih (acc.set i l[i]) ⟨by simpa using h0, take_set_succ h h0 h1⟩)
      simp only [laws_toBoolS.l0]
      rw [if_pos (by omega), if_pos (by omega), if_pos (by omega), rdOfIn h, wrapSucc (by omega), toNatCast])
    (List.replicate l.length false) ⟨by simp, by simp⟩
  refine Ev.congr (fun k => ?_) key
  simp only [laws_toBoolS.f]
  rw [if_pos (by omega), if_pos (by omega), toNatCast]
theorem eqBoolS_same {a : List Bool} (ha : a.length ≤ 1048576) : Ev (fun k => laws_eqBoolS.f k a a) true := by
  have key := evScan a (fun k (_ : Unit) i => laws_eqBoolS.l0 k a a i) (fun _ _ _ => true) (fun _ _ => True) (fun _ _ => by
      refine Ev.step (f := fun _ => some true) (fun k => ?_) (Ev.now _)
      simp only [laws_eqBoolS.l0]
      rw [if_neg (by omega)]) (fun _ i t h _ _ ih => by
      refine Ev.step (fun k => ?_) (ih () trivial)
      simp only [laws_eqBoolS.l0, bne_self_eq_false, Bool.false_eq_true, if_false]
      rw [if_pos (by omega), if_pos (by omega), if_pos (by omega), wrapSucc (by omega)])
    () trivial
  refine Ev.congr (fun k => ?_) key
  simp only [laws_eqBoolS.f, if_true]
theorem szBoolS_ok {l : List Bool} {q : Int} (hl : l.length ≤ maxLen) (h0 : 0 ≤ q) (h1 : q ≤ 1048576) : laws_szBoolS.f l q = some (if (l.length : Int) ≤ q then q - (l.length : Int) else -1) := by
  unfold laws_szBoolS.f
  unfold maxLen at hl
  rw [wrapId (n := q - (l.length : Int)) (by omega) (by omega)]
  by_cases c : (l.length : Int) ≤ q
  · rw [if_neg (by omega), if_pos c]
  · rw [if_pos (by omega), if_neg c]
theorem szParty_ok {a f : Int} {l : List S93} {p : List Bool} {q : Int} (hl : l.length ≤ maxLen) (hp : p.length ≤ maxLen) (h0 : 0 ≤ q) (h1 : q ≤ 1048576) :
    laws_szParty.f a f l p q = some (if (l.length : Int) + (p.length : Int) ≤ q then q - (l.length : Int) - (p.length : Int) else -1) := by
  unfold laws_szParty.f
  rw [szMemberS_ok hl h0 h1, Option.bind_some]
  by_cases c : (l.length : Int) ≤ q
  · rw [if_pos c, if_neg (by omega), szBoolS_ok hp (by omega) (by omega), Option.bind_some]
    by_cases d : (p.length : Int) ≤ q - (l.length : Int)
    · rw [if_pos d, if_neg (by omega), if_pos (by omega)]
    · rw [if_neg d, if_pos (by omega), if_neg (by omega)]
  · rw [if_neg c, if_pos (by omega), if_neg (by omega)]
theorem toParty_ev {a f : Int} {l : List S93} {p : List Bool} (hl : l.length ≤ 1048576) (hp : p.length ≤ 1048576) : Ev (fun k => laws_toParty.f k a f l p) (a, f, l.map mem, p) := by
  unfold laws_toParty.f
  exact Ev.bind (toMemberS_ev hl) (Ev.bind (toBoolS_ev hp) (Ev.now _))
theorem eqParty_same {a f : Int} {l : List S71} {p : List Bool} (hl : l.length ≤ 1048576) (hp : p.length ≤ 1048576) : Ev (fun k => laws_eqParty.f k a f l p a f l p) true := by
  unfold laws_eqParty.f
  exact evPos rfl (evPos rfl (Ev.bind (eqMemberS_same hl) (evPos rfl (Ev.bind (eqBoolS_same hp) (evPos rfl (Ev.now _))))))

attribute [local instance 10] Classical.propDecidable
theorem memNe (x y : S71) : (!(x.f0 == y.f0) || (!(x.f1 == y.f1) || (!(x.f2 == y.f2) || !(x.f3 == y.f3)))) = decide (¬ x = y) := by
  obtain ⟨a, b, c, d⟩ := x
  obtain ⟨e, f, g, h⟩ := y
  by_cases h0 : a = e <;> by_cases h1 : b = f <;> by_cases h2 : c = g <;> by_cases h3 : d = h <;> simp [h0, h1, h2, h3]
theorem drop_ne {α : Type} {a b : List α} {i : Nat} (h : i < a.length) (g : i < b.length) : (a.drop i = b.drop i) ↔ (a[i] = b[i] ∧ a.drop (i + 1) = b.drop (i + 1)) := by
  rw [List.drop_eq_getElem_cons h, List.drop_eq_getElem_cons g, List.cons.injEq]
theorem dropsEq {α : Type} {a b : List α} (e : a.length = b.length) : (a.drop a.length = b.drop a.length) := by
  rw [List.drop_length, e, List.drop_length]
theorem spec_Crews_ev {a b : List S71} (ha : a.length ≤ 100000000) : Ev (fun k => spec_l9Crews.f k a b) (decide (a = b)) := by
  unfold spec_l9Crews.f
  by_cases e : a.length = b.length
  · refine evPos (by omega) ?_
    have key := evScan a (fun k (_ : Unit) i => spec_l9Crews.l0 k a b i) (fun _ i _ => decide (a.drop i = b.drop i)) (fun _ _ => True) (fun _ _ => by
        refine Ev.step (f := fun _ => some true) (fun k => ?_) ?_
        · simp only [spec_l9Crews.l0]
          rw [if_neg (by omega)]
        · rw [decide_eq_true (dropsEq e)]
          exact Ev.now _) (fun _ i t h _ _ ih => by
        have g : i < b.length := by omega
        refine Ev.step (f := fun k => if a[i] = b[i] then spec_l9Crews.l0 k a b ((i + 1 : Nat) : Int) else some false) (fun k => ?_) ?_
        · simp only [spec_l9Crews.l0]
          rw [if_pos (by omega), if_pos (by omega), if_pos (by omega), rdM h, rdM g, wrapSucc (by omega), memNe]
          by_cases q : a[i] = b[i] <;> simp [q]
        · simp only [drop_ne h g]
          by_cases q : a[i] = b[i]
          · refine evPos q ?_
            simpa [q] using ih () trivial
          · refine evNeg q ?_
            simp only [q, false_and, decide_false]
            exact Ev.now _)
      () trivial
    simpa using key
  · refine evNeg (by omega) ?_
    rw [decide_eq_false (fun x => e (by rw [x]))]
    exact Ev.now _
theorem spec_Pasts_ev {a b : List Bool} (ha : a.length ≤ 100000000) : Ev (fun k => spec_l9Pasts.f k a b) (decide (a = b)) := by
  unfold spec_l9Pasts.f
  by_cases e : a.length = b.length
  · refine evPos (by omega) ?_
    have key := evScan a (fun k (_ : Unit) i => spec_l9Pasts.l0 k a b i) (fun _ i _ => decide (a.drop i = b.drop i)) (fun _ _ => True) (fun _ _ => by
        refine Ev.step (f := fun _ => some true) (fun k => ?_) ?_
        · simp only [spec_l9Pasts.l0]
          rw [if_neg (by omega)]
        · rw [decide_eq_true (dropsEq e)]
          exact Ev.now _) (fun _ i t h _ _ ih => by
        have g : i < b.length := by omega
        refine Ev.step (f := fun k => if a[i] = b[i] then spec_l9Pasts.l0 k a b ((i + 1 : Nat) : Int) else some false) (fun k => ?_) ?_
        · simp only [spec_l9Pasts.l0]
          rw [if_pos (by omega), if_pos (by omega), if_pos (by omega), rdOfIn h, rdOfIn g, wrapSucc (by omega)]
          by_cases q : a[i] = b[i] <;> simp [q]
        · simp only [drop_ne h g]
          by_cases q : a[i] = b[i]
          · refine evPos q ?_
            simpa [q] using ih () trivial
          · refine evNeg q ?_
            simp only [q, false_and, decide_false]
            exact Ev.now _)
      () trivial
    simpa using key
  · refine evNeg (by omega) ?_
    rw [decide_eq_false (fun x => e (by rw [x]))]
    exact Ev.now _
theorem impl_Pasts_ev (a0 a1 b0 b1 : Int) (l m : List S71) {a b : List Bool} (e : a.length = b.length) (ha : a.length ≤ 100000000) : Ev (fun k => impl_EqualParties.l1 k (a.length : Int) 0 a0 a1 l a b0 b1 m b) (decide (a = b)) := by
  have key := evScan a (fun k (_ : Unit) i => impl_EqualParties.l1 k (a.length : Int) i a0 a1 l a b0 b1 m b) (fun _ i _ => decide (a.drop i = b.drop i)) (fun _ _ => True) (fun _ _ => by
      refine Ev.step (f := fun _ => some true) (fun k => ?_) ?_
      · simp only [impl_EqualParties.l1]
        rw [if_neg (by omega)]
      · rw [decide_eq_true (dropsEq e)]
        exact Ev.now _) (fun _ i t h _ _ ih => by
      have g : i < b.length := by omega
      refine Ev.step (f := fun k => if a[i] = b[i] then impl_EqualParties.l1 k (a.length : Int) ((i + 1 : Nat) : Int) a0 a1 l a b0 b1 m b else some false) (fun k => ?_) ?_
      · simp only [impl_EqualParties.l1]
        rw [if_pos (by omega), if_pos (by omega), if_pos (by omega), if_pos (by omega), rdOfIn h, rdOfIn g, wrapSucc (by omega)]
        by_cases q : a[i] = b[i] <;> simp [q]
      · simp only [drop_ne h g]
        by_cases q : a[i] = b[i]
        · refine evPos q ?_
          simpa [q] using ih () trivial
        · refine evNeg q ?_
          simp only [q, false_and, decide_false]
          exact Ev.now _)
    () trivial
  simpa using key
theorem impl_Equal_ev (a0 a1 b0 b1 : Int) {l m : List S71} {a b : List Bool} (hl : l.length ≤ 100000000) (ha : a.length ≤ 100000000) : Ev (fun k => impl_EqualParties.f k a0 a1 l a b0 b1 m b) (decide (a0 = b0 ∧ a1 = b1 ∧ l = m ∧ a = b)) := by
  have no : ¬ (a0 = b0 ∧ a1 = b1 ∧ l = m ∧ a = b) → Ev (fun k => impl_EqualParties.j0 k true a0 a1 l a b0 b1 m b) (decide (a0 = b0 ∧ a1 = b1 ∧ l = m ∧ a = b)) := by
    intro q
    rw [decide_eq_false q]
    exact Ev.step (f := fun _ => some false) (fun k => by simp only [impl_EqualParties.j0, if_true]) (Ev.now _)
  unfold impl_EqualParties.f
  by_cases c0 : a0 = b0
  · refine evPos c0 ?_
    by_cases c1 : a1 = b1
    · refine evPos c1 ?_
      by_cases c2 : l.length = m.length
      · refine evPos (by omega) ?_
        by_cases c3 : a.length = b.length
        · have e3 : ((a.length : Int) != (b.length : Int)) = false := by simp [c3]
          rw [e3]
          have key := evScan l (fun k (_ : Unit) i => impl_EqualParties.l0 k (l.length : Int) i a0 a1 l a b0 b1 m b) (fun _ i _ => decide (l.drop i = m.drop i ∧ a = b)) (fun _ _ => True) (fun _ _ => by
              refine Ev.step (f := fun k => impl_EqualParties.l1 k (a.length : Int) 0 a0 a1 l a b0 b1 m b) (fun k => ?_) ?_
              · simp only [impl_EqualParties.l0]
                rw [if_neg (by omega)]
              · simp only [dropsEq c2, true_and]
                exact impl_Pasts_ev a0 a1 b0 b1 l m c3 ha) (fun _ i t h _ _ ih => by
              have g : i < m.length := by omega
              refine Ev.step (f := fun k => if l[i] = m[i] then impl_EqualParties.l0 k (l.length : Int) ((i + 1 : Nat) : Int) a0 a1 l a b0 b1 m b else some false) (fun k => ?_) ?_
              · simp only [impl_EqualParties.l0]
                rw [if_pos (by omega), if_pos (by omega), if_pos (by omega), if_pos (by omega), rdM h, rdM g, wrapSucc (by omega), memNe]
                by_cases q : l[i] = m[i] <;> simp [q]
              · simp only [drop_ne h g]
                by_cases q : l[i] = m[i]
                · refine evPos q ?_
                  simpa [q] using ih () trivial
                · refine evNeg q ?_
                  simp only [q, false_and, decide_false]
                  exact Ev.now _)
            () trivial
          refine Ev.step (f := fun k => impl_EqualParties.l0 k (l.length : Int) 0 a0 a1 l a b0 b1 m b) (fun k => ?_) ?_
          · simp only [impl_EqualParties.j0, Bool.false_eq_true, if_false]
          · simpa [c0, c1] using key
        · have e3 : ((a.length : Int) != (b.length : Int)) = true := by simp; omega
          rw [e3]
          exact no (fun x => c3 (by rw [x.2.2.2]))
      · exact evNeg (by omega) (no (fun x => c2 (by rw [x.2.2.1])))
    · exact evNeg c1 (no (fun x => c1 x.2.1))
  · exact evNeg c0 (no (fun x => c0 x.1))
theorem spec_Equal_ev (a0 a1 b0 b1 : Int) {l m : List S71} {a b : List Bool} (hl : l.length ≤ 100000000) (ha : a.length ≤ 100000000) : Ev (fun k => spec_EqualParties.f k a0 a1 l a b0 b1 m b) (decide (a0 = b0 ∧ a1 = b1 ∧ l = m ∧ a = b)) := by
  unfold spec_EqualParties.f
  by_cases c0 : a0 = b0
  · refine evPos c0 ?_
    by_cases c1 : a1 = b1
    · refine evPos c1 (Ev.bind (spec_Crews_ev hl) ?_)
      by_cases c2 : l = m
      · refine evPos (decide_eq_true c2) (Ev.bind (spec_Pasts_ev ha) ?_)
        simp only [c0, c1, c2, true_and]
        exact Ev.now _
      · refine evNeg (by simp [c2]) ?_
        simp only [c2, false_and, and_false, decide_false]
        exact Ev.now _
    · refine evNeg c1 ?_
      simp only [c1, false_and, and_false, decide_false]
      exact Ev.now _
  · refine evNeg c0 ?_
    simp only [c0, false_and, decide_false]
    exact Ev.now _
def okS93 (x : S93) : Prop := (Lit.int .i64 x.f0).wf = true ∧ (Lit.int .i64 x.f1).wf = true ∧ (Lit.int .i64 x.f2).wf = true ∧ True
def FnExactEqualParties.Claim : Prop := ∀ (a0_0 : Int) (a0_1 : Int) (l0_2 : List (S93)) (l0_3 : List (Bool)) (a1_0 : Int) (a1_1 : Int) (l1_2 : List (S93)) (l1_3 : List (Bool)), (Lit.int .i64 a0_0).wf = true → (Lit.int .i64 a0_1).wf = true → l0_2.length ≤ maxLen → (∀ x ∈ l0_2, okS93 x) → l0_3.length ≤ maxLen → (∀ x ∈ l0_3, True) → (Lit.int .i64 a1_0).wf = true → (Lit.int .i64 a1_1).wf = true → l1_2.length ≤ maxLen → (∀ x ∈ l1_2, okS93 x) → l1_3.length ≤ maxLen → (∀ x ∈ l1_3, True) → ∃ k, laws_FnExactEqualParties.f k a0_0 a0_1 l0_2 l0_3 a1_0 a1_1 l1_2 l1_3 = some true
theorem FnExactEqualParties : FnExactEqualParties.Claim := by
  intro a0 a1 l a b0 b1 m b _ _ hl _ ha _ _ _ hm _ hb _
  apply Ev.rounds
  unfold laws_FnExactEqualParties.f
  rw [szParty_ok hl ha (by omega) (by omega)]
  simp only [Option.bind_some]
  by_cases q0 : (l.length : Int) + (a.length : Int) ≤ 1048576
  · rw [if_pos q0]
    refine evNeg (by omega) ?_
    rw [szParty_ok hm hb (by omega) (by omega)]
    simp only [Option.bind_some]
    by_cases q1 : (m.length : Int) + (b.length : Int) ≤ 1048576 - (l.length : Int) - (a.length : Int)
    · rw [if_pos q1]
      refine evNeg (by omega) ?_
      have h0 : l.length ≤ 1048576 := by omega
      have h1 : a.length ≤ 1048576 := by omega
      have h2 : m.length ≤ 1048576 := by omega
      have h3 : b.length ≤ 1048576 := by omega
      have h0' : (l.map mem).length ≤ 1048576 := by rw [List.length_map]; exact h0
      have h2' : (m.map mem).length ≤ 1048576 := by rw [List.length_map]; exact h2
      have h8 : (l.map mem).length ≤ 100000000 := by omega
      have h9 : a.length ≤ 100000000 := by omega
      exact Ev.bind (toParty_ev h0 h1) (Ev.bind (toParty_ev h2 h3) (Ev.bind (spec_Equal_ev a0 a1 b0 b1 h8 h9) (Ev.bind (toParty_ev h0 h1) (Ev.bind (toParty_ev h2 h3) (Ev.bind (impl_Equal_ev a0 a1 b0 b1 h8 h9) (evNeg (by simp) (Ev.bind (toParty_ev h0 h1) (Ev.bind (eqParty_same h0' h1) (evPos rfl (Ev.bind (toParty_ev h2 h3) (Ev.bind (eqParty_same h2' h3) (evPos rfl (Ev.now _)))))))))))))
    · rw [if_neg q1]
      exact evPos (by omega) (Ev.now _)
  · rw [if_neg q0]
    exact evPos (by omega) (Ev.now _)
end Go.Proofs.Ytkdclkbgejbgjae.Pure
