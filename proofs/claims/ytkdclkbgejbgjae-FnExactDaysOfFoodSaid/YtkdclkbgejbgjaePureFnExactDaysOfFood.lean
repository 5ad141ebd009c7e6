/- For every Party, the program's DaysOfFood and the reference's give the same answer: the law's Go function answers true. No condition beyond the kinds of the numbers. -/
import Derived.Test.YtkdclkbgejbgjaePFnExactDaysOfFoodx6
import Derived.Test.YtkdclkbgejbgjaeAid
namespace Go.Proofs.Ytkdclkbgejbgjae.Pure
open Go.RowKit Go.Proofs.Ytkdclkbgejbgjae.PFnExactDaysOfFood Go.Proofs.Ytkdclkbgejbgjae.Aid Go.Proofs.YtkdclkbgejbgjaeW.PrintWords Go.Proofs.YtkdclkbgejbgjaeW.PrintLast Go.Proofs.YtkdclkbgejbgjaeW.PrintMore
set_option linter.unusedVariables false
set_option linter.unusedSimpArgs false
theorem szMemberS_ok {l : List S93} {q : Int} (hl : l.length ≤ maxLen) (h0 : 0 ≤ q) (h1 : q ≤ 1048576) : laws_szMemberS.f l q = some (if (l.length : Int) ≤ q then q - (l.length : Int) else -1) := by
  unfold laws_szMemberS.f
  unfold maxLen at hl
  rw [wrapId (n := q - (l.length : Int)) (by omega) (by omega)]
  by_cases c : (l.length : Int) ≤ q
  · rw [if_neg (by omega), if_pos c]
  · rw [if_pos (by omega), if_neg c]

def mem (x : S93) : S71 := ⟨x.f0, x.f1, x.f2, x.f3⟩
theorem rdM {xs : List S71} {i : Nat} (h : i < xs.length) : rd_T71 xs (i : Int) = xs[i] := by
  unfold rd_T71
  rw [Int.toNat_natCast, getD_lt h]
theorem rdLM {xs : List S93} {i : Nat} (h : i < xs.length) : rd_T93 xs (i : Int) = xs[i] := by
  unfold rd_T93
  rw [Int.toNat_natCast, getD_lt h]
theorem toMemberS_ev {l : List S93} (hl : l.length ≤ 1048576) : Ev (fun k => laws_toMemberS.f k l) (l.map mem) := by
  have key := evScan l (fun k (acc : List S71) i => laws_toMemberS.l0 k l acc i) (fun _ _ _ => l.map mem) (fun acc i => acc.length = (l.map mem).length ∧ acc.take i = (l.map mem).take i) (fun acc ⟨h0, h1⟩ => by
      refine Ev.step (f := fun _ => some acc) (fun k => ?_) ?_
      · simp only [laws_toMemberS.l0]
        rw [if_neg (by omega)]
      · rw [take_whole h0 (by rw [List.length_map]; exact h1)]
        exact Ev.now _) (fun acc i t h ht ⟨h0, h1⟩ ih => by
      have hm : i < (l.map mem).length := by rw [List.length_map]; exact h
      have hs := take_set_succ hm h0 h1
      rw [List.length_map] at h0
      refine Ev.step (fun k => ?_) (ih (acc.set i (l.map mem)[i]) ⟨by simpa using h0, hs⟩)
      simp only [laws_toMemberS.l0, laws_toMember.f, Option.bind_some]
      rw [if_pos (by omega), if_pos (by omega), if_pos (by omega), rdLM h, wrapSucc (by omega), toNatCast, List.getElem_map]
      rfl)
    (List.replicate l.length z71) ⟨by simp, by simp⟩
  refine Ev.congr (fun k => ?_) key
  simp only [laws_toMemberS.f]
  rw [if_pos (by omega), if_pos (by omega), toNatCast]

theorem eqMemberS_same {a : List S71} (ha : a.length ≤ 1048576) : Ev (fun k => laws_eqMemberS.f k a a) true := by
  have key := evScan a (fun k (_ : Unit) i => laws_eqMemberS.l0 k a a i) (fun _ _ _ => true) (fun _ _ => True) (fun _ _ => by
      refine Ev.step (f := fun _ => some true) (fun k => ?_) (Ev.now _)
      simp only [laws_eqMemberS.l0]
      rw [if_neg (by omega)]) (fun _ i t h _ _ ih => by
      refine Ev.step (fun k => ?_) (ih () trivial)
      simp only [laws_eqMemberS.l0, laws_eqMember.f, if_true, bne_self_eq_false, Bool.false_eq_true, if_false, Option.bind_some]
      rw [if_pos (by omega), if_pos (by omega), if_pos (by omega), wrapSucc (by omega)])
    () trivial
  refine Ev.congr (fun k => ?_) key
  simp only [laws_eqMemberS.f, if_true]

theorem rdOfIn {xs : List Bool} {i : Nat} (h : i < xs.length) : rdOf false xs (i : Int) = xs[i] := by
  unfold rdOf
  rw [Int.toNat_natCast, getD_lt h]
theorem toBoolS_ev {l : List Bool} (hl : l.length ≤ 1048576) : Ev (fun k => laws_toBoolS.f k l) l := by
  have key := evScan l (fun k (acc : List Bool) i => laws_toBoolS.l0 k l acc i) (fun _ _ _ => l) (fun acc i => acc.length = l.length ∧ acc.take i = l.take i) (fun acc ⟨h0, h1⟩ => by
      refine Ev.step (f := fun _ => some acc) (fun k => ?_) ?_
      · simp only [laws_toBoolS.l0]
        rw [if_neg (by omega)]
      · rw [take_whole h0 h1]
        exact Ev.now _) (fun acc i t h ht ⟨h0, h1⟩ ih => by
      refine Ev.step (fun k => ?_) (ih (acc.set i l[i]) ⟨by simpa using h0, take_set_succ h h0 h1⟩)
      simp only [laws_toBoolS.l0]
      rw [if_pos (by omega), if_pos (by omega), if_pos (by omega), rdOfIn h, wrapSucc (by omega), toNatCast])
    (List.replicate l.length false) ⟨by simp, by simp⟩
  refine Ev.congr (fun k => ?_) key
  simp only [laws_toBoolS.f]
  rw [if_pos (by omega), if_pos (by omega), toNatCast]
theorem eqBoolS_same {a : List Bool} (ha : a.length ≤ 1048576) : Ev (fun k => laws_eqBoolS.f k a a) true := by
  have key := evScan a (fun k (_ : Unit) i => laws_eqBoolS.l0 k a a i) (fun _ _ _ => true) (fun _ _ => True) (fun _ _ => by
      refine Ev.step (f := fun _ => some true) (fun k => ?_) (Ev.now _)
      simp only [laws_eqBoolS.l0]
      rw [if_neg (by omega)]) (fun _ i t h _ _ ih => by
      refine Ev.step (fun k => ?_) (ih () trivial)
      simp only [laws_eqBoolS.l0, bne_self_eq_false, Bool.false_eq_true, if_false]
      rw [if_pos (by omega), if_pos (by omega), if_pos (by omega), wrapSucc (by omega)])
    () trivial
  refine Ev.congr (fun k => ?_) key
  simp only [laws_eqBoolS.f, if_true]
theorem szBoolS_ok {l : List Bool} {q : Int} (hl : l.length ≤ maxLen) (h0 : 0 ≤ q) (h1 : q ≤ 1048576) : laws_szBoolS.f l q = some (if (l.length : Int) ≤ q then q - (l.length : Int) else -1) := by
  unfold laws_szBoolS.f
  unfold maxLen at hl
  rw [wrapId (n := q - (l.length : Int)) (by omega) (by omega)]
  by_cases c : (l.length : Int) ≤ q
  · rw [if_neg (by omega), if_pos c]
  · rw [if_pos (by omega), if_neg c]
theorem szParty_ok {a f : Int} {l : List S93} {p : List Bool} {q : Int} (hl : l.length ≤ maxLen) (hp : p.length ≤ maxLen) (h0 : 0 ≤ q) (h1 : q ≤ 1048576) :
    laws_szParty.f a f l p q = some (if (l.length : Int) + (p.length : Int) ≤ q then q - (l.length : Int) - (p.length : Int) else -1) := by
  unfold laws_szParty.f
  rw [szMemberS_ok hl h0 h1, Option.bind_some]
  by_cases c : (l.length : Int) ≤ q
  · rw [if_pos c, if_neg (by omega), szBoolS_ok hp (by omega) (by omega), Option.bind_some]
    by_cases d : (p.length : Int) ≤ q - (l.length : Int)
    · rw [if_pos d, if_neg (by omega), if_pos (by omega)]
    · rw [if_neg d, if_pos (by omega), if_neg (by omega)]
  · rw [if_neg c, if_pos (by omega), if_neg (by omega)]
theorem toParty_ev {a f : Int} {l : List S93} {p : List Bool} (hl : l.length ≤ 1048576) (hp : p.length ≤ 1048576) : Ev (fun k => laws_toParty.f k a f l p) (a, f, l.map mem, p) := by
  unfold laws_toParty.f
  exact Ev.bind (toMemberS_ev hl) (Ev.bind (toBoolS_ev hp) (Ev.now _))
theorem eqParty_same {a f : Int} {l : List S71} {p : List Bool} (hl : l.length ≤ 1048576) (hp : p.length ≤ 1048576) : Ev (fun k => laws_eqParty.f k a f l p a f l p) true := by
  unfold laws_eqParty.f
  exact evPos rfl (evPos rfl (Ev.bind (eqMemberS_same hl) (evPos rfl (Ev.bind (eqBoolS_same hp) (evPos rfl (Ev.now _))))))

theorem l1In_eq (a b c : Int) : spec_l1In.f a b c = some (decide (b ≤ a ∧ a ≤ c)) := by
  unfold spec_l1In.f
  by_cases h : b ≤ a
  · rw [if_pos h]
    simp [h]
  · rw [if_neg h]
    simp [h]
theorem inRange_eq (a b c : Int) : impl_InRange.f a b c = some (decide (b ≤ a ∧ a ≤ c)) := by
  unfold impl_InRange.f
  by_cases h : b ≤ a
  · rw [if_pos h]
    simp [h]
  · rw [if_neg h]
    simp [h]

def okM (m : S71) : Bool := decide ((1 ≤ m.f0 ∧ m.f0 ≤ 99) ∧ (0 ≤ m.f1 ∧ m.f1 ≤ 100) ∧ (1 ≤ m.f2 ∧ m.f2 ≤ 10))
/-- Members of a crew, behind one whose number is p. -/
def crewFrom : Int → List S71 → Bool
  | _, [] => true
  | p, m :: t => okM m && (decide (p < m.f0) && crewFrom m.f0 t)
def areCrew (l : List S71) : Bool := crewFrom 0 l && decide (1 ≤ l.length ∧ l.length ≤ 8)
def prevId (l : List S71) (i : Nat) : Int := if i = 0 then 0 else (l.getD (i - 1) z71).f0
theorem prevId_succ {l : List S71} {i : Nat} (h : i < l.length) : prevId l (i + 1) = l[i].f0 := by
  unfold prevId
  rw [if_neg (by omega), Nat.add_sub_cancel, getD_lt h]
theorem prevId_pos {l : List S71} {i : Nat} (hl : l.length ≤ 100000000) (h : i ≤ l.length) (h0 : 0 < i) : prevId l i = (rd_T71 l (wrap64 ((i : Int) - 1))).f0 := by
  rw [wrapId (n := (i : Int) - 1) (by omega) (by omega), show ((i : Int) - 1) = ((i - 1 : Nat) : Int) by omega, rdM (by omega)]
  unfold prevId
  rw [if_neg (by omega), getD_lt (by omega)]
theorem crewFrom_ok : ∀ {l : List S71} {p : Int}, crewFrom p l = true → ∀ m ∈ l, okM m = true
  | [], _, _, m, h => by cases h
  | x :: t, p, e, m, h => by
    simp only [crewFrom, Bool.and_eq_true] at e
    rcases List.mem_cons.1 h with rfl | h
    · exact e.1
    · exact crewFrom_ok e.2.2 m h
theorem areCrew_len {l : List S71} (e : areCrew l = true) : 1 ≤ l.length ∧ l.length ≤ 8 := by
  unfold areCrew at e
  simp only [Bool.and_eq_true, decide_eq_true_eq] at e
  exact e.2
theorem areCrew_ok {l : List S71} (e : areCrew l = true) : ∀ m ∈ l, (1 ≤ m.f0 ∧ m.f0 ≤ 99) ∧ (0 ≤ m.f1 ∧ m.f1 ≤ 100) ∧ (1 ≤ m.f2 ∧ m.f2 ≤ 10) := by
  intro m hm
  unfold areCrew at e
  simp only [Bool.and_eq_true] at e
  have := crewFrom_ok e.1 m hm
  unfold okM at this
  exact of_decide_eq_true this

theorem impl_AreCrew_ev {l : List S71} (hl : l.length ≤ 100000000) : Ev (fun k => impl_AreCrew.f k l) (areCrew l) := by
  have key := evScan l (fun k (_ : Unit) i => impl_AreCrew.l0 k l l (l.length : Int) i) (fun _ i t => crewFrom (prevId l i) t && decide (1 ≤ l.length ∧ l.length ≤ 8)) (fun _ _ => True) (fun _ _ => by
      refine Ev.step (f := fun _ => some (decide (1 ≤ l.length ∧ l.length ≤ 8))) (fun k => ?_) ?_
      · simp only [impl_AreCrew.l0, inRange_eq, Option.bind_some]
        rw [if_neg (by omega), Option.some.injEq, decide_eq_decide]
        omega
      · simp only [crewFrom, Bool.true_and]
        exact Ev.now _) (fun _ i t h ht _ ih => by
      have ih := ih () trivial
      rw [prevId_succ h] at ih
      have st : ∀ k, impl_AreCrew.l0 (k + 1) l l (l.length : Int) (i : Int) = if okM l[i] = true ∧ prevId l i < l[i].f0 then impl_AreCrew.l0 k l l (l.length : Int) ((i + 1 : Nat) : Int) else some false := by
        intro k
        simp only [impl_AreCrew.l0, inRange_eq, Option.bind_some]
        rw [if_pos (by omega), if_pos (by omega), if_pos (by omega), rdM h, wrapSucc (by omega)]
        unfold okM
        by_cases c0 : 1 ≤ l[i].f0 ∧ l[i].f0 ≤ 99
        · by_cases c1 : 0 < i
          · rw [← prevId_pos hl (by omega) c1]
            have w1 : wrap64 ((i : Int) - 1) = ((i - 1 : Nat) : Int) := by rw [wrapId (n := (i : Int) - 1) (by omega) (by omega)]; omega
            rw [w1]
            have g1 : (i : Int) > 0 := by omega
            have g2 : (0 : Int) ≤ ((i - 1 : Nat) : Int) := by omega
            have g3 : ((i - 1 : Nat) : Int) < (l.length : Int) := by omega
            by_cases c2 : l[i].f0 ≤ prevId l i
            · have n2 : ¬ prevId l i < l[i].f0 := by omega
              simp only [c0, and_self, decide_true, if_true, if_pos g1, if_pos g2, if_pos g3, if_pos c2, n2, and_false, if_false]
            · have n2 : prevId l i < l[i].f0 := by omega
              by_cases c3 : 0 ≤ l[i].f1 ∧ l[i].f1 ≤ 100
              · by_cases c4 : 1 ≤ l[i].f2 ∧ l[i].f2 ≤ 10
                · simp only [c0, c3, c4, and_self, decide_true, if_true, if_pos g1, if_pos g2, if_pos g3, if_neg c2, n2]
                · simp only [c0, c3, c4, and_self, decide_true, decide_false, if_true, if_false, Bool.false_eq_true, if_pos g1, if_pos g2, if_pos g3, if_neg c2, and_false, false_and]
              · simp only [c0, c3, and_self, decide_true, decide_false, if_true, if_false, Bool.false_eq_true, if_pos g1, if_pos g2, if_pos g3, if_neg c2, and_false, false_and]
          · have g1 : ¬ ((i : Int) > 0) := by omega
            have n2 : prevId l i < l[i].f0 := by
              unfold prevId
              rw [if_pos (by omega)]
              omega
            by_cases c3 : 0 ≤ l[i].f1 ∧ l[i].f1 ≤ 100
            · by_cases c4 : 1 ≤ l[i].f2 ∧ l[i].f2 ≤ 10
              · simp only [c0, c3, c4, and_self, decide_true, if_true, if_neg g1, n2]
              · simp only [c0, c3, c4, and_self, decide_true, decide_false, if_true, if_false, Bool.false_eq_true, if_neg g1, and_false, false_and]
            · simp only [c0, c3, and_self, decide_true, decide_false, if_true, if_false, Bool.false_eq_true, if_neg g1, and_false, false_and]
        · simp [c0]
      refine Ev.step st ?_
      by_cases c : okM l[i] = true ∧ prevId l i < l[i].f0
      · refine evPos c ?_
        simp only [crewFrom, c.1, c.2, decide_true, Bool.true_and]
        exact ih
      · refine evNeg c ?_
        have e : crewFrom (prevId l i) (l[i] :: t) = false := by
          simp only [crewFrom]
          by_cases d : okM l[i] = true
          · have n : ¬ prevId l i < l[i].f0 := fun x => c ⟨d, x⟩
            simp [n]
          · simp [d]
        rw [e, Bool.false_and]
        exact Ev.now _)
    () trivial
  unfold impl_AreCrew.f
  exact key

def needSum : List S71 → Int
  | [] => 0
  | m :: t => m.f2 + needSum t
def needOf (l : List S71) : Int := if areCrew l = true then needSum l else 0
theorem needSum_le : ∀ {l : List S71}, (∀ m ∈ l, 1 ≤ m.f2 ∧ m.f2 ≤ 10) → (l.length : Int) ≤ needSum l ∧ needSum l ≤ 10 * (l.length : Int)
  | [], _ => by simp [needSum]
  | m :: t, h => by
    have h0 := h m List.mem_cons_self
    have h1 := needSum_le (l := t) (fun x hx => h x (List.mem_cons_of_mem _ hx))
    simp only [needSum, List.length_cons, Int.natCast_add]
    omega
theorem needOf_crew {l : List S71} (c : areCrew l = true) : 1 ≤ needOf l ∧ needOf l ≤ 80 := by
  unfold needOf
  rw [if_pos c]
  have h0 := needSum_le (l := l) (fun m hm => (areCrew_ok c m hm).2.2)
  have h1 := areCrew_len c
  omega
theorem needOf_none {l : List S71} (c : ¬ areCrew l = true) : needOf l = 0 := by
  unfold needOf
  rw [if_neg c]

theorem impl_NeedOf_ev {l : List S71} (hl : l.length ≤ 100000000) : Ev (fun k => impl_NeedOf.f k l) (needOf l) := by
  unfold impl_NeedOf.f needOf
  refine Ev.bind (impl_AreCrew_ev hl) ?_
  by_cases c : areCrew l = true
  · rw [if_pos c]
    refine evPos c ?_
    have hb := areCrew_ok c
    have hn := areCrew_len c
    have key := evScan l (fun k (acc : Int) i => impl_NeedOf.l0 k acc l (l.length : Int) i) (fun acc _ t => acc + needSum t) (fun acc i => 0 ≤ acc ∧ acc ≤ 10 * (i : Int)) (fun acc _ => by
        rw [show acc + needSum [] = acc by simp [needSum]]
        refine Ev.step (f := fun _ => some acc) (fun k => ?_) (Ev.now _)
        simp only [impl_NeedOf.l0]
        rw [if_neg (by omega)]) (fun acc i t h ht hi ih => by
        have hm := hb l[i] (List.getElem_mem h)
        have := ih (acc + l[i].f2) (by omega)
        rw [show acc + l[i].f2 + needSum t = acc + needSum (l[i] :: t) by simp only [needSum]; omega] at this
        refine Ev.step (fun k => ?_) this
        simp only [impl_NeedOf.l0]
        rw [if_pos (by omega), if_pos (by omega), if_pos (by omega), rdM h, wrapSucc (by omega), wrapId (n := acc + l[i].f2) (by omega) (by omega)])
      0 (by omega)
    simpa using key
  · rw [if_neg c]
    exact evNeg c (Ev.now _)

theorem spec_AreCrew_ev {l : List S71} (hl : l.length ≤ 100000000) : Ev (fun k => spec_AreCrew.f k l) (areCrew l) := by
  have key := evScan l (fun k (_ : Unit) i => spec_AreCrew.l0 k l i) (fun _ i t => crewFrom (prevId l i) t && decide (1 ≤ l.length ∧ l.length ≤ 8)) (fun _ _ => True) (fun _ _ => by
      refine Ev.step (f := fun _ => some (decide (1 ≤ l.length ∧ l.length ≤ 8))) (fun k => ?_) ?_
      · simp only [spec_AreCrew.l0, l1In_eq, Option.bind_some]
        rw [if_neg (by omega), Option.some.injEq, decide_eq_decide]
        omega
      · simp only [crewFrom, Bool.true_and]
        exact Ev.now _) (fun _ i t h ht _ ih => by
      have ih := ih () trivial
      rw [prevId_succ h] at ih
      have st : ∀ k, spec_AreCrew.l0 (k + 1) l (i : Int) = if okM l[i] = true ∧ prevId l i < l[i].f0 then spec_AreCrew.l0 k l ((i + 1 : Nat) : Int) else some false := by
        intro k
        simp only [spec_AreCrew.l0, l1In_eq, Option.bind_some]
        rw [if_pos (by omega), if_pos (by omega), rdM h, wrapSucc (by omega)]
        unfold okM
        by_cases c0 : 1 ≤ l[i].f0 ∧ l[i].f0 ≤ 99
        · by_cases c3 : 0 ≤ l[i].f1 ∧ l[i].f1 ≤ 100
          · by_cases c4 : 1 ≤ l[i].f2 ∧ l[i].f2 ≤ 10
            · by_cases c1 : 0 < i
              · rw [← prevId_pos hl (by omega) c1]
                have w1 : wrap64 ((i : Int) - 1) = ((i - 1 : Nat) : Int) := by rw [wrapId (n := (i : Int) - 1) (by omega) (by omega)]; omega
                rw [w1]
                have g1 : (i : Int) > 0 := by omega
                have g2 : (0 : Int) ≤ ((i - 1 : Nat) : Int) := by omega
                have g3 : ((i - 1 : Nat) : Int) < (l.length : Int) := by omega
                by_cases c2 : prevId l i ≥ l[i].f0
                · have n2 : ¬ prevId l i < l[i].f0 := by omega
                  simp only [c0, c3, c4, and_self, decide_true, if_true, if_pos g1, if_pos g2, if_pos g3, if_pos c2, n2, and_false, if_false]
                · have n2 : prevId l i < l[i].f0 := by omega
                  simp only [c0, c3, c4, and_self, decide_true, if_true, if_pos g1, if_pos g2, if_pos g3, if_neg c2, n2]
              · have g1 : ¬ ((i : Int) > 0) := by omega
                have n2 : prevId l i < l[i].f0 := by
                  unfold prevId
                  rw [if_pos (by omega)]
                  omega
                simp only [c0, c3, c4, and_self, decide_true, if_true, if_neg g1, n2]
            · simp [c0, c3, c4]
          · simp [c0, c3]
        · simp [c0]
      refine Ev.step st ?_
      by_cases c : okM l[i] = true ∧ prevId l i < l[i].f0
      · refine evPos c ?_
        simp only [crewFrom, c.1, c.2, decide_true, Bool.true_and]
        exact ih
      · refine evNeg c ?_
        have e : crewFrom (prevId l i) (l[i] :: t) = false := by
          simp only [crewFrom]
          by_cases d : okM l[i] = true
          · have n : ¬ prevId l i < l[i].f0 := fun x => c ⟨d, x⟩
            simp [n]
          · simp [d]
        rw [e, Bool.false_and]
        exact Ev.now _)
    () trivial
  unfold spec_AreCrew.f
  exact key

theorem spec_NeedOf_ev {l : List S71} (hl : l.length ≤ 100000000) : Ev (fun k => spec_NeedOf.f k l) (needOf l) := by
  unfold spec_NeedOf.f needOf
  by_cases c : areCrew l = true
  · rw [if_pos c]
    have hb := areCrew_ok c
    have hn := areCrew_len c
    have key := evScan l (fun k (acc : Int) i => spec_NeedOf.l0 k l acc i) (fun acc _ t => acc + needSum t) (fun acc i => 0 ≤ acc ∧ acc ≤ 10 * (i : Int)) (fun acc _ => by
        rw [show acc + needSum [] = acc by simp [needSum]]
        refine Ev.step (f := fun _ => some acc) (fun k => ?_) (Ev.now _)
        simp only [spec_NeedOf.l0]
        rw [if_neg (by omega)]) (fun acc i t h ht hi ih => by
        have hm := hb l[i] (List.getElem_mem h)
        have := ih (acc + l[i].f2) (by omega)
        rw [show acc + l[i].f2 + needSum t = acc + needSum (l[i] :: t) by simp only [needSum]; omega] at this
        have st : ∀ k, spec_NeedOf.l0 (k + 1) l acc (i : Int) = (spec_AreCrew.f k l).bind fun b => if b = true then spec_NeedOf.l0 k l (acc + l[i].f2) ((i + 1 : Nat) : Int) else some acc := by
          intro k
          simp only [spec_NeedOf.l0]
          rw [if_pos (by omega), rdM h, wrapSucc (by omega), wrapId (n := acc + l[i].f2) (by omega) (by omega)]
          simp only [if_pos (show (0 : Int) ≤ (i : Int) by omega)]
        exact Ev.step st (Ev.bind (spec_AreCrew_ev hl) (evPos c this)))
      0 (by omega)
    simpa using key
  · rw [if_neg c]
    by_cases e : 0 < l.length
    · refine Ev.step (fun k => rfl) ?_
      simp only [spec_NeedOf.l0]
      exact evPos (by omega) (Ev.bind (spec_AreCrew_ev hl) (evNeg c (Ev.now _)))
    · refine Ev.step (f := fun _ => some 0) (fun k => ?_) (Ev.now _)
      simp only [spec_NeedOf.l0]
      rw [if_neg (by omega)]

theorem tdivB {f n : Int} (h0 : 0 ≤ f) (h1 : f ≤ 9223372036854775807) (hn : 1 ≤ n) : wrap64 (Int.tdiv f n) = f / n := by
  rw [Int.tdiv_eq_ediv_of_nonneg h0]
  have a := Int.ediv_nonneg h0 (show 0 ≤ n by omega)
  have b := Int.ediv_le_self n h0
  exact wrapId (by omega) (by omega)
def daysOf (f : Int) (l : List S71) : Int := if areCrew l = true ∧ 0 ≤ f then f / needOf l else 0
theorem impl_Days_ev {a f : Int} {l : List S71} {p : List Bool} (hf : f ≤ 9223372036854775807) (hl : l.length ≤ 100000000) : Ev (fun k => impl_DaysOfFood.f k a f l p) (daysOf f l) := by
  unfold impl_DaysOfFood.f
  refine Ev.bind (impl_AreCrew_ev hl) ?_
  by_cases c : areCrew l = true
  · refine evPos c ?_
    have hn := needOf_crew c
    by_cases d : f < 0
    · rw [show daysOf f l = 0 by unfold daysOf; rw [if_neg (by omega)]]
      exact evPos d (Ev.now _)
    · rw [show daysOf f l = f / needOf l by unfold daysOf; rw [if_pos ⟨c, by omega⟩]]
      refine evNeg d (Ev.bind (impl_NeedOf_ev hl) (evNeg (by omega) ?_))
      rw [tdivB (by omega) hf hn.1]
      exact Ev.now _
  · rw [show daysOf f l = 0 by unfold daysOf; rw [if_neg (fun x => c x.1)]]
    exact evNeg c (Ev.now _)
theorem spec_Days_ev {a f : Int} {l : List S71} {p : List Bool} (hf : f ≤ 9223372036854775807) (hl : l.length ≤ 100000000) : Ev (fun k => spec_DaysOfFood.f k a f l p) (daysOf f l) := by
  unfold spec_DaysOfFood.f
  refine Ev.bind (spec_NeedOf_ev hl) ?_
  by_cases c : areCrew l = true
  · have hn := needOf_crew c
    refine evNeg (by omega) ?_
    by_cases d : f < 0
    · rw [show daysOf f l = 0 by unfold daysOf; rw [if_neg (by omega)]]
      exact evPos d (Ev.now _)
    · rw [show daysOf f l = f / needOf l by unfold daysOf; rw [if_pos ⟨c, by omega⟩]]
      refine evNeg d ?_
      rw [tdivB (by omega) hf hn.1]
      exact Ev.now _
  · rw [show daysOf f l = 0 by unfold daysOf; rw [if_neg (fun x => c x.1)]]
    exact evPos (needOf_none c) (Ev.now _)
def okS93 (x : S93) : Prop := (Lit.int .i64 x.f0).wf = true ∧ (Lit.int .i64 x.f1).wf = true ∧ (Lit.int .i64 x.f2).wf = true ∧ True
def FnExactDaysOfFood.Claim : Prop := ∀ (a0_0 : Int) (a0_1 : Int) (l0_2 : List (S93)) (l0_3 : List (Bool)), (Lit.int .i64 a0_0).wf = true → (Lit.int .i64 a0_1).wf = true → l0_2.length ≤ maxLen → (∀ x ∈ l0_2, okS93 x) → l0_3.length ≤ maxLen → (∀ x ∈ l0_3, True) → ∃ k, laws_FnExactDaysOfFood.f k a0_0 a0_1 l0_2 l0_3 = some true
theorem FnExactDaysOfFood : FnExactDaysOfFood.Claim := by
  intro a f l p _ hf hm _ hp _
  have hf := ((wfIff f).1 hf).2
  apply Ev.rounds
  unfold laws_FnExactDaysOfFood.f
  rw [szParty_ok hm hp (by omega) (by omega)]
  simp only [Option.bind_some]
  by_cases c : (l.length : Int) + (p.length : Int) ≤ 1048576
  · rw [if_pos c]
    refine evNeg (by omega) ?_
    have hl : l.length ≤ 1048576 := by omega
    have hp' : p.length ≤ 1048576 := by omega
    have hl' : (l.map mem).length ≤ 1048576 := by rw [List.length_map]; exact hl
    have h8 : (l.map mem).length ≤ 100000000 := by omega
    exact Ev.bind (toParty_ev hl hp') (Ev.bind (spec_Days_ev hf h8) (Ev.bind (toParty_ev hl hp') (Ev.bind (impl_Days_ev hf h8) (evPos rfl (Ev.bind (toParty_ev hl hp') (Ev.bind (eqParty_same hl' hp') (evPos rfl (Ev.now _))))))))
  · rw [if_neg c]
    exact evPos (by omega) (Ev.now _)
end Go.Proofs.Ytkdclkbgejbgjae.Pure
