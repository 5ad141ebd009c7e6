/- For every list of members, every number and both values, the program's SetIll and the reference's give the same list, new memory that nothing else changes, and the same bool: the law's Go function answers true. No condition beyond the kinds of the numbers. -/
import Derived.Test.YtkdclkbgejbgjadPFnExactSetIllx6
import Derived.Test.YtkdclkbgejbgjadAid
namespace Go.Proofs.Ytkdclkbgejbgjad.Pure
open Go.RowKit Go.Proofs.Ytkdclkbgejbgjad.PFnExactSetIll Go.Proofs.Ytkdclkbgejbgjad.Aid Go.Proofs.YtkdclkbgejbgjadW.PrintWords Go.Proofs.YtkdclkbgejbgjadW.PrintLast Go.Proofs.YtkdclkbgejbgjadW.PrintMore
set_option linter.unusedVariables false
set_option linter.unusedSimpArgs false
theorem szMemberS_ok {l : List S59} {q : Int} (hl : l.length ≤ maxLen) (h0 : 0 ≤ q) (h1 : q ≤ 1048576) : laws_szMemberS.f l q = some (if (l.length : Int) ≤ q then q - (l.length : Int) else -1) := by
  unfold laws_szMemberS.f
  unfold maxLen at hl
  rw [wrapId (n := q - (l.length : Int)) (by omega) (by omega)]
  by_cases c : (l.length : Int) ≤ q
  · rw [if_neg (by omega), if_pos c]
  · rw [if_pos (by omega), if_neg c]

def mem (x : S59) : S57 := ⟨x.f0, x.f1, x.f2, x.f3⟩
theorem rdM {xs : List S57} {i : Nat} (h : i < xs.length) : rd_T57 xs (i : Int) = xs[i] := by
  unfold rd_T57
  rw [Int.toNat_natCast, getD_lt h]
theorem rdLM {xs : List S59} {i : Nat} (h : i < xs.length) : rd_T59 xs (i : Int) = xs[i] := by
  unfold rd_T59
  rw [Int.toNat_natCast, getD_lt h]
theorem toMemberS_ev {l : List S59} (hl : l.length ≤ 1048576) : Ev (fun k => laws_toMemberS.f k l) (l.map mem) := by
  have key := evScan l (fun k (acc : List S57) i => laws_toMemberS.l0 k l acc i) (fun _ _ _ => l.map mem) (fun acc i => acc.length = (l.map mem).length ∧ acc.take i = (l.map mem).take i) (fun acc ⟨h0, h1⟩ => by
      refine Ev.step (f := fun _ => some acc) (fun k => ?_) ?_
      · simp only [laws_toMemberS.l0]
        rw [if_neg (by omega)]
      · rw [take_whole h0 (by rw [List.length_map]; exact h1)]
        exact Ev.now _) (fun acc i t h ht ⟨h0, h1⟩ ih => by
      have hm : i < (l.map mem).length := by rw [List.length_map]; exact h
      have hs := take_set_succ hm h0 h1
      rw [List.length_map] at h0
      refine Ev.step (fun k => ?_) (ih (acc.set i (l.map mem)[i]) ⟨by simpa using h0, hs⟩)
      simp only [laws_toMemberS.l0, laws_toMember.f, Option.bind_some]
      rw [if_pos (by omega), if_pos (by omega), if_pos (by omega), rdLM h, wrapSucc (by omega), toNatCast, List.getElem_map]
      rfl)
    (List.replicate l.length z57) ⟨by simp, by simp⟩
  refine Ev.congr (fun k => ?_) key
  simp only [laws_toMemberS.f]
  rw [if_pos (by omega), if_pos (by omega), toNatCast]

theorem eqMemberS_same {a : List S57} (ha : a.length ≤ 1048576) : Ev (fun k => laws_eqMemberS.f k a a) true := by
  have key := evScan a (fun k (_ : Unit) i => laws_eqMemberS.l0 k a a i) (fun _ _ _ => true) (fun _ _ => True) (fun _ _ => by
      refine Ev.step (f := fun _ => some true) (fun k => ?_) (Ev.now _)
      simp only [laws_eqMemberS.l0]
      rw [if_neg (by omega)]) (fun _ i t h _ _ ih => by
      refine Ev.step (fun k => ?_) (ih () trivial)
      simp only [laws_eqMemberS.l0, laws_eqMember.f, if_true, bne_self_eq_false, Bool.false_eq_true, if_false, Option.bind_some]
      rw [if_pos (by omega), if_pos (by omega), if_pos (by omega), wrapSucc (by omega)])
    () trivial
  refine Ev.congr (fun k => ?_) key
  simp only [laws_eqMemberS.f, if_true]

def okM (m : S57) : Bool := decide ((1 ≤ m.f0 ∧ m.f0 ≤ 99) ∧ (0 ≤ m.f1 ∧ m.f1 ≤ 100) ∧ (1 ≤ m.f2 ∧ m.f2 ≤ 10))
/-- Members of a crew, behind one whose number is p. -/
def crewFrom : Int → List S57 → Bool
  | _, [] => true
  | p, m :: t => okM m && (decide (p < m.f0) && crewFrom m.f0 t)
def areCrew (l : List S57) : Bool := crewFrom 0 l && decide (1 ≤ l.length ∧ l.length ≤ 8)
def prevId (l : List S57) (i : Nat) : Int := if i = 0 then 0 else (l.getD (i - 1) z57).f0
theorem prevId_succ {l : List S57} {i : Nat} (h : i < l.length) : prevId l (i + 1) = l[i].f0 := by
  unfold prevId
  rw [if_neg (by omega), Nat.add_sub_cancel, getD_lt h]
theorem prevId_pos {l : List S57} {i : Nat} (hl : l.length ≤ 100000000) (h : i ≤ l.length) (h0 : 0 < i) : prevId l i = (rd_T57 l (wrap64 ((i : Int) - 1))).f0 := by
  rw [wrapId (n := (i : Int) - 1) (by omega) (by omega), show ((i : Int) - 1) = ((i - 1 : Nat) : Int) by omega, rdM (by omega)]
  unfold prevId
  rw [if_neg (by omega), getD_lt (by omega)]
theorem crewFrom_ok : ∀ {l : List S57} {p : Int}, crewFrom p l = true → ∀ m ∈ l, okM m = true
  | [], _, _, m, h => by cases h
  | x :: t, p, e, m, h => by
    simp only [crewFrom, Bool.and_eq_true] at e
    rcases List.mem_cons.1 h with rfl | h
    · exact e.1
    · exact crewFrom_ok e.2.2 m h
theorem areCrew_len {l : List S57} (e : areCrew l = true) : 1 ≤ l.length ∧ l.length ≤ 8 := by
  unfold areCrew at e
  simp only [Bool.and_eq_true, decide_eq_true_eq] at e
  exact e.2
theorem areCrew_ok {l : List S57} (e : areCrew l = true) : ∀ m ∈ l, (1 ≤ m.f0 ∧ m.f0 ≤ 99) ∧ (0 ≤ m.f1 ∧ m.f1 ≤ 100) ∧ (1 ≤ m.f2 ∧ m.f2 ≤ 10) := by
  intro m hm
  unfold areCrew at e
  simp only [Bool.and_eq_true] at e
  have := crewFrom_ok e.1 m hm
  unfold okM at this
  exact of_decide_eq_true this

def ill (b : Bool) (m : S57) : S57 := ⟨m.f0, m.f1, m.f2, b⟩
def setFirst (n : Int) (b : Bool) : List S57 → List S57
  | [] => []
  | m :: t => if m.f0 = n then ill b m :: t else m :: setFirst n b t
def anyId (n : Int) : List S57 → Bool
  | [] => false
  | m :: t => decide (m.f0 = n) || anyId n t
theorem setFirst_length (n : Int) (b : Bool) : ∀ l : List S57, (setFirst n b l).length = l.length
  | [] => rfl
  | m :: t => by
    simp only [setFirst]
    split
    · rfl
    · simp [setFirst_length n b t]
def setAll (n : Int) (b : Bool) (l : List S57) : List S57 := l.map (fun m => if m.f0 = n then ill b m else m)
theorem setAll_none {n : Int} {b : Bool} : ∀ {l : List S57} {p : Int}, crewFrom p l = true → n ≤ p → setAll n b l = l
  | [], _, _, _ => rfl
  | m :: t, p, e, h => by
    simp only [crewFrom, Bool.and_eq_true, decide_eq_true_eq] at e
    have := setAll_none (b := b) e.2.2 (by omega : n ≤ m.f0)
    unfold setAll at this ⊢
    rw [List.map_cons, this, if_neg (by omega)]
theorem setAll_first {n : Int} {b : Bool} : ∀ {l : List S57} {p : Int}, crewFrom p l = true → setAll n b l = setFirst n b l
  | [], _, _ => rfl
  | m :: t, p, e => by
    simp only [crewFrom, Bool.and_eq_true, decide_eq_true_eq] at e
    simp only [setFirst]
    by_cases c : m.f0 = n
    · have := setAll_none (b := b) e.2.2 (by omega : n ≤ m.f0)
      unfold setAll at this ⊢
      rw [if_pos c, List.map_cons, if_pos c, this]
    · have := setAll_first (n := n) (b := b) e.2.2
      unfold setAll at this ⊢
      rw [if_neg c, List.map_cons, if_neg c, this]
def setIll (l : List S57) (n : Int) (b : Bool) : List S57 × Bool := if areCrew l = true then (setFirst n b l, anyId n l) else (l, false)
theorem setIll_length (l : List S57) (n : Int) (b : Bool) : (setIll l n b).1.length = l.length := by
  unfold setIll
  split
  · exact setFirst_length n b l
  · rfl

theorem l1In_eq (a b c : Int) : spec_l1In.f a b c = some (decide (b ≤ a ∧ a ≤ c)) := by
  unfold spec_l1In.f
  by_cases h : b ≤ a
  · rw [if_pos h]
    simp [h]
  · rw [if_neg h]
    simp [h]
theorem inRange_eq (a b c : Int) : impl_InRange.f a b c = some (decide (b ≤ a ∧ a ≤ c)) := by
  unfold impl_InRange.f
  by_cases h : b ≤ a
  · rw [if_pos h]
    simp [h]
  · rw [if_neg h]
    simp [h]

theorem impl_AreCrew_ev {l : List S57} (hl : l.length ≤ 100000000) : Ev (fun k => impl_AreCrew.f k l) (areCrew l) := by
  have key := evScan l (fun k (_ : Unit) i => impl_AreCrew.l0 k l l (l.length : Int) i) (fun _ i t => crewFrom (prevId l i) t && decide (1 ≤ l.length ∧ l.length ≤ 8)) (fun _ _ => True) (fun _ _ => by
      refine Ev.step (f := fun _ => some (decide (1 ≤ l.length ∧ l.length ≤ 8))) (fun k => ?_) ?_
      · simp only [impl_AreCrew.l0, inRange_eq, Option.bind_some]
        rw [if_neg (by omega), Option.some.injEq, decide_eq_decide]
        omega
      · simp only [crewFrom, Bool.true_and]
        exact Ev.now _) (fun _ i t h ht _ ih => by
      have ih := ih () trivial
      rw [prevId_succ h] at ih
      have st : ∀ k, impl_AreCrew.l0 (k + 1) l l (l.length : Int) (i : Int) = if okM l[i] = true ∧ prevId l i < l[i].f0 then impl_AreCrew.l0 k l l (l.length : Int) ((i + 1 : Nat) : Int) else some false := by
        intro k
        simp only [impl_AreCrew.l0, inRange_eq, Option.bind_some]
        rw [if_pos (by omega), if_pos (by omega), if_pos (by omega), rdM h, wrapSucc (by omega)]
        unfold okM
        by_cases c0 : 1 ≤ l[i].f0 ∧ l[i].f0 ≤ 99
        · by_cases c1 : 0 < i
          · rw [← prevId_pos hl (by omega) c1]
            have w1 : wrap64 ((i : Int) - 1) = ((i - 1 : Nat) : Int) := by rw [wrapId (n := (i : Int) - 1) (by omega) (by omega)]; omega
            rw [w1]
            have g1 : (i : Int) > 0 := by omega
            have g2 : (0 : Int) ≤ ((i - 1 : Nat) : Int) := by omega
            have g3 : ((i - 1 : Nat) : Int) < (l.length : Int) := by omega
            by_cases c2 : l[i].f0 ≤ prevId l i
            · have n2 : ¬ prevId l i < l[i].f0 := by omega
              simp only [c0, and_self, decide_true, if_true, if_pos g1, if_pos g2, if_pos g3, if_pos c2, n2, and_false, if_false]
            · have n2 : prevId l i < l[i].f0 := by omega
              by_cases c3 : 0 ≤ l[i].f1 ∧ l[i].f1 ≤ 100
              · by_cases c4 : 1 ≤ l[i].f2 ∧ l[i].f2 ≤ 10
                · simp only [c0, c3, c4, and_self, decide_true, if_true, if_pos g1, if_pos g2, if_pos g3, if_neg c2, n2]
                · simp only [c0, c3, c4, and_self, decide_true, decide_false, if_true, if_false, Bool.false_eq_true, if_pos g1, if_pos g2, if_pos g3, if_neg c2, and_false, false_and]
              · simp only [c0, c3, and_self, decide_true, decide_false, if_true, if_false, Bool.false_eq_true, if_pos g1, if_pos g2, if_pos g3, if_neg c2, and_false, false_and]
          · have g1 : ¬ ((i : Int) > 0) := by omega
            have n2 : prevId l i < l[i].f0 := by
              unfold prevId
              rw [if_pos (by omega)]
              omega
            by_cases c3 : 0 ≤ l[i].f1 ∧ l[i].f1 ≤ 100
            · by_cases c4 : 1 ≤ l[i].f2 ∧ l[i].f2 ≤ 10
              · simp only [c0, c3, c4, and_self, decide_true, if_true, if_neg g1, n2]
              · simp only [c0, c3, c4, and_self, decide_true, decide_false, if_true, if_false, Bool.false_eq_true, if_neg g1, and_false, false_and]
            · simp only [c0, c3, and_self, decide_true, decide_false, if_true, if_false, Bool.false_eq_true, if_neg g1, and_false, false_and]
        · simp [c0]
      refine Ev.step st ?_
      by_cases c : okM l[i] = true ∧ prevId l i < l[i].f0
      · refine evPos c ?_
        simp only [crewFrom, c.1, c.2, decide_true, Bool.true_and]
        exact ih
      · refine evNeg c ?_
        have e : crewFrom (prevId l i) (l[i] :: t) = false := by
          simp only [crewFrom]
          by_cases d : okM l[i] = true
          · have n : ¬ prevId l i < l[i].f0 := fun x => c ⟨d, x⟩
            simp [n]
          · simp [d]
        rw [e, Bool.false_and]
        exact Ev.now _)
    () trivial
  unfold impl_AreCrew.f
  exact key

theorem impl_SetIll_ev {l : List S57} (n : Int) (b : Bool) (hl : l.length ≤ 100000000) : Ev (fun k => impl_SetIll.f k l n b) (setIll l n b) := by
  unfold impl_SetIll.f impl_copyCrew.f setIll
  simp only [Option.bind_some, List.length_nil, Nat.zero_add, List.nil_append]
  rw [if_pos (show l.length < 4398046511104 by omega)]
  simp only [Option.bind_some]
  refine Ev.bind (impl_AreCrew_ev hl) ?_
  by_cases c : areCrew l = true
  · rw [if_pos c]
    refine evPos c ?_
    have key := evScan l (fun k (_ : Unit) i => impl_SetIll.l0 k n b l (l.length : Int) i) (fun _ i t => (l.take i ++ setFirst n b t, anyId n t)) (fun _ _ => True) (fun _ _ => by
        rw [List.take_length]
        simp only [setFirst, anyId, List.append_nil]
        refine Ev.step (f := fun _ => some (l, false)) (fun k => ?_) (Ev.now _)
        simp only [impl_SetIll.l0]
        rw [if_neg (by omega)]) (fun _ i t h ht _ ih => by
        have st : ∀ k, impl_SetIll.l0 (k + 1) n b l (l.length : Int) (i : Int) = if l[i].f0 = n then some (l.set i (ill b l[i]), true) else impl_SetIll.l0 k n b l (l.length : Int) ((i + 1 : Nat) : Int) := by
          intro k
          simp only [impl_SetIll.l0]
          rw [if_pos (by omega), if_pos (by omega), if_pos (by omega), rdM h, wrapSucc (by omega), toNatCast]
          rfl
        refine Ev.step st ?_
        simp only [setFirst, anyId]
        by_cases d : l[i].f0 = n
        · rw [if_pos d, decide_eq_true d, Bool.true_or]
          refine evPos d ?_
          rw [show l.take i ++ ill b l[i] :: t = l.set i (ill b l[i]) by rw [List.set_eq_take_append_cons_drop, if_pos h, ht]]
          exact Ev.now _
        · rw [if_neg d, decide_eq_false d, Bool.false_or]
          refine evNeg d ?_
          have := ih () trivial
          rw [List.take_succ_eq_append_getElem h, List.append_assoc, List.singleton_append] at this
          exact this)
      () trivial
    simpa using key
  · rw [if_neg c]
    exact evNeg c (Ev.now _)

theorem spec_AreCrew_ev {l : List S57} (hl : l.length ≤ 100000000) : Ev (fun k => spec_AreCrew.f k l) (areCrew l) := by
  have key := evScan l (fun k (_ : Unit) i => spec_AreCrew.l0 k l i) (fun _ i t => crewFrom (prevId l i) t && decide (1 ≤ l.length ∧ l.length ≤ 8)) (fun _ _ => True) (fun _ _ => by
      refine Ev.step (f := fun _ => some (decide (1 ≤ l.length ∧ l.length ≤ 8))) (fun k => ?_) ?_
      · simp only [spec_AreCrew.l0, l1In_eq, Option.bind_some]
        rw [if_neg (by omega), Option.some.injEq, decide_eq_decide]
        omega
      · simp only [crewFrom, Bool.true_and]
        exact Ev.now _) (fun _ i t h ht _ ih => by
      have ih := ih () trivial
      rw [prevId_succ h] at ih
      have st : ∀ k, spec_AreCrew.l0 (k + 1) l (i : Int) = if okM l[i] = true ∧ prevId l i < l[i].f0 then spec_AreCrew.l0 k l ((i + 1 : Nat) : Int) else some false := by
        intro k
        simp only [spec_AreCrew.l0, l1In_eq, Option.bind_some]
        rw [if_pos (by omega), if_pos (by omega), rdM h, wrapSucc (by omega)]
        unfold okM
        by_cases c0 : 1 ≤ l[i].f0 ∧ l[i].f0 ≤ 99
        · by_cases c3 : 0 ≤ l[i].f1 ∧ l[i].f1 ≤ 100
          · by_cases c4 : 1 ≤ l[i].f2 ∧ l[i].f2 ≤ 10
            · by_cases c1 : 0 < i
              · rw [← prevId_pos hl (by omega) c1]
                have w1 : wrap64 ((i : Int) - 1) = ((i - 1 : Nat) : Int) := by rw [wrapId (n := (i : Int) - 1) (by omega) (by omega)]; omega
                rw [w1]
                have g1 : (i : Int) > 0 := by omega
                have g2 : (0 : Int) ≤ ((i - 1 : Nat) : Int) := by omega
                have g3 : ((i - 1 : Nat) : Int) < (l.length : Int) := by omega
                by_cases c2 : prevId l i ≥ l[i].f0
                · have n2 : ¬ prevId l i < l[i].f0 := by omega
                  simp only [c0, c3, c4, and_self, decide_true, if_true, if_pos g1, if_pos g2, if_pos g3, if_pos c2, n2, and_false, if_false]
                · have n2 : prevId l i < l[i].f0 := by omega
                  simp only [c0, c3, c4, and_self, decide_true, if_true, if_pos g1, if_pos g2, if_pos g3, if_neg c2, n2]
              · have g1 : ¬ ((i : Int) > 0) := by omega
                have n2 : prevId l i < l[i].f0 := by
                  unfold prevId
                  rw [if_pos (by omega)]
                  omega
                simp only [c0, c3, c4, and_self, decide_true, if_true, if_neg g1, n2]
            · simp [c0, c3, c4]
          · simp [c0, c3]
        · simp [c0]
      refine Ev.step st ?_
      by_cases c : okM l[i] = true ∧ prevId l i < l[i].f0
      · refine evPos c ?_
        simp only [crewFrom, c.1, c.2, decide_true, Bool.true_and]
        exact ih
      · refine evNeg c ?_
        have e : crewFrom (prevId l i) (l[i] :: t) = false := by
          simp only [crewFrom]
          by_cases d : okM l[i] = true
          · have n : ¬ prevId l i < l[i].f0 := fun x => c ⟨d, x⟩
            simp [n]
          · simp [d]
        rw [e, Bool.false_and]
        exact Ev.now _)
    () trivial
  unfold spec_AreCrew.f
  exact key

theorem spec_SetIll_ev {l : List S57} (n : Int) (b : Bool) (hl : l.length ≤ 100000000) : Ev (fun k => spec_SetIll.f k l n b) (setIll l n b) := by
  unfold spec_SetIll.f setIll
  simp only [Option.bind_some, List.length_nil, Nat.zero_add, List.nil_append]
  refine evPos (show l.length < 4398046511104 by omega) ?_
  have fin : ∀ (x : List S57) (q : Bool) (i : Int), Ev (fun k => spec_SetIll.j1 k l n b x q i false) (x, q) := by
    intro x q i
    refine Ev.step (f := fun _ => some (x, q)) (fun k => ?_) (Ev.now _)
    simp only [spec_SetIll.j1, Bool.false_eq_true, if_false]
  by_cases c : areCrew l = true
  · rw [if_pos c]
    have key := evScan l (fun k (s : List S57 × Bool) i => spec_SetIll.l0 k l n b s.1 s.2 i) (fun s i t => (setAll n b l, s.2 || anyId n t)) (fun s i => s.1.length = l.length ∧ s.1.drop i = l.drop i ∧ s.1.take i = (setAll n b l).take i) (fun s ⟨g0, g1, g2⟩ => by
        have e : s.1 = setAll n b l := take_whole (by simp [setAll, g0]) (by rw [show (setAll n b l).length = l.length by simp [setAll]]; exact g2)
        rw [← e, show (s.2 || anyId n []) = s.2 by simp [anyId]]
        refine Ev.step (fun k => ?_) (fin s.1 s.2 (l.length : Int))
        simp only [spec_SetIll.l0]
        rw [if_neg (by omega)]) (fun s i t h ht ⟨g0, g1, g2⟩ ih => by
        have hs : i < s.1.length := by omega
        have hm : i < (setAll n b l).length := by simp [setAll]; exact h
        have ex : s.1[i] = l[i] := by
          have := congrArg (fun z => z[0]?) g1
          simpa [List.getElem?_drop, hs, h] using this
        have st : ∀ k, spec_SetIll.l0 (k + 1) l n b s.1 s.2 (i : Int) = (spec_AreCrew.f k l).bind fun q => spec_SetIll.j1 k l n b s.1 s.2 (i : Int) q := by
          intro k
          simp only [spec_SetIll.l0]
          rw [if_pos (by omega)]
        have st1 : ∀ k, spec_SetIll.j1 (k + 1) l n b s.1 s.2 (i : Int) true = if l[i].f0 = n then spec_SetIll.l0 k l n b (s.1.set i (ill b l[i])) true ((i + 1 : Nat) : Int) else spec_SetIll.l0 k l n b s.1 s.2 ((i + 1 : Nat) : Int) := by
          intro k
          simp only [spec_SetIll.j1, if_true]
          rw [if_pos (by omega), if_pos (by omega), rdM hs, wrapSucc (by omega), toNatCast, ex]
          rfl
        refine Ev.step st (Ev.bind (spec_AreCrew_ev hl) ?_)
        simp only [c]
        refine Ev.step st1 ?_
        have hd : ∀ z : List S57, z.drop i = l.drop i → i < z.length → z.drop (i + 1) = l.drop (i + 1) := by
          intro z hz _
          have := congrArg (List.drop 1) hz
          simpa [List.drop_drop, Nat.add_comm] using this
        by_cases d : l[i].f0 = n
        · refine evPos d ?_
          have em : (setAll n b l)[i] = ill b l[i] := by simp [setAll, d]
          have h1 := take_set_succ hm (by simp [setAll, g0]) g2
          rw [em] at h1
          have := ih (s.1.set i (ill b l[i]), true) ⟨by simpa using g0, by simp only [List.drop_set_of_lt (Nat.lt_succ_self i)]; exact hd s.1 g1 hs, h1⟩
          simpa [anyId, d] using this
        · refine evNeg d ?_
          have em : (setAll n b l)[i] = l[i] := by simp [setAll, d]
          have h1 : s.1.take (i + 1) = (setAll n b l).take (i + 1) := by
            rw [List.take_succ_eq_append_getElem hs, List.take_succ_eq_append_getElem hm, em, ex, g2]
          have := ih (s.1, s.2) ⟨g0, hd s.1 g1 hs, h1⟩
          simpa [anyId, d] using this)
      (l, false) ⟨rfl, rfl, by simp⟩
    have e : setAll n b l = setFirst n b l := by
      unfold areCrew at c
      simp only [Bool.and_eq_true] at c
      exact setAll_first c.1
    rw [e] at key
    simpa using key
  · rw [if_neg c]
    by_cases e : 0 < l.length
    · refine Ev.step (f := fun k => (spec_AreCrew.f k l).bind fun q => spec_SetIll.j1 k l n b l false 0 q) (fun k => ?_) (Ev.bind (spec_AreCrew_ev hl) ?_)
      · simp only [spec_SetIll.l0]
        rw [if_pos (by omega)]
      · simp only [c]
        exact fin l false 0
    · refine Ev.step (fun k => ?_) (fin l false 0)
      simp only [spec_SetIll.l0]
      rw [if_neg (by omega)]

def markM (q : Int) (i : Nat) : S57 := ⟨q + 4 * (i : Int), q + 4 * (i : Int) + 1, q + 4 * (i : Int) + 1 + 1, (Int.tmod (q + 4 * (i : Int) + 1 + 1 + 1) 3 == 0)⟩
def marksM (q : Int) (n : Nat) : List S57 := (List.range n).map (markM q)
theorem marksM_length (q : Int) (n : Nat) : (marksM q n).length = n := by simp [marksM]
theorem marksM_at (q : Int) (n i : Nat) (h : i < (marksM q n).length) : (marksM q n)[i] = markM q i := by simp [marksM]
theorem rdMset {xs : List S57} {i : Nat} (v : S57) (h : i < xs.length) : rd_T57 (xs.set i v) (i : Int) = v := by
  rw [rdM (by simpa using h), List.getElem_set_self]
theorem markMemberS_ev {l : List S57} {q : Int} (hl : l.length ≤ 2000000) (h0 : 0 ≤ q) (h1 : q ≤ 1000000000000) : Ev (fun k => laws_markMemberS.f k l q) (q + 4 * (l.length : Int), marksM q l.length) := by
  have key := evScan l (fun k (s : List S57 × Int) i => laws_markMemberS.l0 k s.1 s.2 i) (fun _ _ _ => (q + 4 * (l.length : Int), marksM q l.length)) (fun s i => s.1.length = l.length ∧ s.1.take i = (marksM q l.length).take i ∧ s.2 = q + 4 * (i : Int)) (fun s ⟨g0, g1, g2⟩ => by
      refine Ev.step (f := fun _ => some (s.2, s.1)) (fun k => ?_) ?_
      · simp only [laws_markMemberS.l0]
        rw [if_neg (by omega)]
      · have : s.1 = marksM q l.length := take_whole (by rw [marksM_length]; exact g0) (by rw [marksM_length]; exact g1)
        rw [this, g2]
        exact Ev.now _) (fun s i t h _ ⟨g0, g1, g2⟩ ih => by
      have hs : i < (marksM q l.length).length := by rw [marksM_length]; exact h
      have e := take_set_succ hs (by rw [marksM_length]; exact g0) g1
      rw [marksM_at] at e
      have g3 : i < s.1.length := by omega
      refine Ev.step (fun k => ?_) (ih (s.1.set i (markM q i), q + 4 * (i : Int) + 1 + 1 + 1 + 1) ⟨by simpa using g0, e, by simp only [Int.natCast_add]; omega⟩)
      simp only [laws_markMemberS.l0, Option.bind_some, toNatCast, rdMset _ g3, List.set_set, g2]
      rw [if_pos (by omega), if_pos (by omega), wrapSucc (by omega), wrapId (n := q + 4 * (i : Int) + 1) (by omega) (by omega), wrapId (n := q + 4 * (i : Int) + 1 + 1) (by omega) (by omega), wrapId (n := q + 4 * (i : Int) + 1 + 1 + 1) (by omega) (by omega), wrapId (n := q + 4 * (i : Int) + 1 + 1 + 1 + 1) (by omega) (by omega)]
      rfl)
    (l, q) ⟨rfl, by simp, by simp⟩
  unfold laws_markMemberS.f
  exact key

theorem heldMemberS_ev {n : Nat} {q : Int} (hl : n ≤ 2000000) (h0 : 0 ≤ q) (h1 : q ≤ 1000000000000) : Ev (fun k => laws_heldMemberS.f k (marksM q n) q) (q + 4 * (n : Int)) := by
  have key := evScan (marksM q n) (fun k (s : Int) i => laws_heldMemberS.l0 k (marksM q n) s i) (fun _ _ _ => q + 4 * (n : Int)) (fun s i => s = q + 4 * (i : Int)) (fun s g => by
      refine Ev.step (f := fun _ => some s) (fun k => ?_) ?_
      · simp only [laws_heldMemberS.l0]
        rw [if_neg (by omega)]
      · rw [g, marksM_length]
        exact Ev.now _) (fun s i t h _ g ih => by
      have hn : i < n := by rw [marksM_length] at h; exact h
      refine Ev.step (fun k => ?_) (ih (q + 4 * (i : Int) + 1 + 1 + 1 + 1) (by simp only [Int.natCast_add]; omega))
      simp only [laws_heldMemberS.l0]
      rw [if_pos (by omega), if_pos (by omega), rdM h, marksM_at, g, wrapSucc (by omega), wrapId (n := q + 4 * (i : Int) + 1) (by omega) (by omega), wrapId (n := q + 4 * (i : Int) + 1 + 1) (by omega) (by omega), wrapId (n := q + 4 * (i : Int) + 1 + 1 + 1) (by omega) (by omega), wrapId (n := q + 4 * (i : Int) + 1 + 1 + 1 + 1) (by omega) (by omega)]
      simp [markM])
    q (by simp)
  unfold laws_heldMemberS.f
  exact key

def okS59 (x : S59) : Prop := (Lit.int .i64 x.f0).wf = true ∧ (Lit.int .i64 x.f1).wf = true ∧ (Lit.int .i64 x.f2).wf = true ∧ True
def FnExactSetIll.Claim : Prop := ∀ (l0 : List (S59)) (a1 : Int) (a2 : Bool), l0.length ≤ maxLen → (∀ x ∈ l0, okS59 x) → (Lit.int .i64 a1).wf = true → ∃ k, laws_FnExactSetIll.f k l0 a1 a2 = some true
theorem FnExactSetIll : FnExactSetIll.Claim := by
  intro l n b hm _ _
  apply Ev.rounds
  unfold laws_FnExactSetIll.f
  rw [szMemberS_ok hm (by omega) (by omega)]
  simp only [Option.bind_some]
  by_cases c : (l.length : Int) ≤ 1048576
  · rw [if_pos c]
    refine evNeg (by omega) ?_
    have hl : l.length ≤ 1048576 := by omega
    have hl' : (l.map mem).length ≤ 1048576 := by rw [List.length_map]; exact hl
    have hs : (setIll (l.map mem) n b).1.length ≤ 1048576 := by rw [setIll_length]; exact hl'
    refine Ev.bind (toMemberS_ev hl) (Ev.bind (spec_SetIll_ev n b (by omega)) (Ev.bind (toMemberS_ev hl) (Ev.bind (impl_SetIll_ev n b (by omega)) (Ev.bind (eqMemberS_same hs) (evPos rfl ?_)))))
    refine Ev.step (fun k => rfl) ?_
    simp only [laws_FnExactSetIll.j0, bne_self_eq_false, Bool.false_eq_true, if_false]
    refine Ev.bind (toMemberS_ev hl) (Ev.bind (eqMemberS_same hl') (evPos rfl (Ev.bind (markMemberS_ev (by omega) (by omega) (by omega)) (evNeg (by omega) (Ev.bind (eqMemberS_same hs) (evPos rfl ?_))))))
    refine Ev.step (fun k => rfl) ?_
    simp only [laws_FnExactSetIll.j1, Bool.false_eq_true, if_false]
    refine Ev.bind (markMemberS_ev (by omega) (by omega) (by omega)) (Ev.bind (heldMemberS_ev (by omega) (by omega) (by omega)) (evNeg (by omega) (evPos rfl ?_)))
    refine Ev.bind (toMemberS_ev hl) (Ev.bind (impl_SetIll_ev n b (by omega)) (Ev.bind (eqMemberS_same hs) (evPos rfl ?_)))
    refine Ev.step (fun k => rfl) ?_
    simp only [laws_FnExactSetIll.j2, bne_self_eq_false, Bool.false_eq_true, if_false]
    exact Ev.bind (heldMemberS_ev (by omega) (by omega) (by omega)) (evNeg (by omega) (evPos rfl (Ev.now _)))
  · rw [if_neg c]
    exact evPos (by omega) (Ev.now _)
end Go.Proofs.Ytkdclkbgejbgjad.Pure
