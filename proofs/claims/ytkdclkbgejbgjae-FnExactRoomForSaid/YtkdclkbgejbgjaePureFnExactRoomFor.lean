/- For every Party, the program's RoomFor and the reference's give the same answer: the law's Go function answers true. No condition beyond the kinds of the numbers. -/
import Derived.Test.YtkdclkbgejbgjaePFnExactRoomForx7
import Derived.Test.YtkdclkbgejbgjaeAid
namespace Go.Proofs.Ytkdclkbgejbgjae.Pure
open Go.RowKit Go.Proofs.Ytkdclkbgejbgjae.PFnExactRoomFor Go.Proofs.Ytkdclkbgejbgjae.Aid Go.Proofs.YtkdclkbgejbgjaeW.PrintWords Go.Proofs.YtkdclkbgejbgjaeW.PrintLast Go.Proofs.YtkdclkbgejbgjaeW.PrintMore
set_option linter.unusedVariables false
set_option linter.unusedSimpArgs false
theorem szMemberS_ok {l : List S93} {q : Int} (hl : l.length ≤ maxLen) (h0 : 0 ≤ q) (h1 : q ≤ 1048576) : laws_szMemberS.f l q = some (if (l.length : Int) ≤ q then q - (l.length : Int) else -1) := by
  unfold laws_szMemberS.f
  unfold maxLen at hl
  rw [wrapId (n := q - (l.length : Int)) (by omega) (by omega)]
  by_cases c : (l.length : Int) ≤ q
  · rw [if_neg (by omega), if_pos c]
  · rw [if_pos (by omega), if_neg c]

def mem (x : S93) : S71 := ⟨x.f0, x.f1, x.f2, x.f3⟩
theorem rdM {xs : List S71} {i : Nat} (h : i < xs.length) : rd_T71 xs (i : Int) = xs[i] := by
  unfold rd_T71
  rw [Int.toNat_natCast, getD_lt h]
theorem rdLM {xs : List S93} {i : Nat} (h : i < xs.length) : rd_T93 xs (i : Int) = xs[i] := by
  unfold rd_T93
  rw [Int.toNat_natCast, getD_lt h]
theorem toMemberS_ev {l : List S93} (hl : l.length ≤ 1048576) : Ev (fun k => laws_toMemberS.f k l) (l.map mem) := by
  have key := evScan l (fun k (acc : List S71) i => laws_toMemberS.l0 k l acc i) (fun _ _ _ => l.map mem) (fun acc i => acc.length = (l.map mem).length ∧ acc.take i = (l.map mem).take i) (fun acc ⟨h0, h1⟩ => by
      refine Ev.step (f := fun _ => some acc) (fun k => ?_) ?_
      · simp only [laws_toMemberS.l0]
        rw [if_neg (by omega)]
      · rw [take_whole h0 (by rw [List.length_map]; exact h1)]
        exact Ev.now _) (fun acc i t h ht ⟨h0, h1⟩ ih => by
      have hm : i < (l.map mem).length := by rw [List.length_map]; exact h
      have hs := take_set_succ hm h0 h1
      rw [List.length_map] at h0
      refine Ev.step (fun k => ?_) (ih (acc.set i (l.map mem)[i]) ⟨by simpa using h0, hs⟩)
      simp only [laws_toMemberS.l0, laws_toMember.f, Option.bind_some]
      rw [if_pos (by omega), if_pos (by omega), if_pos (by omega), rdLM h, wrapSucc (by omega), toNatCast, List.getElem_map]
      rfl)
    (List.replicate l.length z71) ⟨by simp, by simp⟩
  refine Ev.congr (fun k => ?_) key
  simp only [laws_toMemberS.f]
  rw [if_pos (by omega), if_pos (by omega), toNatCast]

theorem eqMemberS_same {a : List S71} (ha : a.length ≤ 1048576) : Ev (fun k => laws_eqMemberS.f k a a) true := by
  have key := evScan a (fun k (_ : Unit) i => laws_eqMemberS.l0 k a a i) (fun _ _ _ => true) (fun _ _ => True) (fun _ _ => by
      refine Ev.step (f := fun _ => some true) (fun k => ?_) (Ev.now _)
      simp only [laws_eqMemberS.l0]
      rw [if_neg (by omega)]) (fun _ i t h _ _ ih => by
      refine Ev.step (fun k => ?_) (ih () trivial)
      simp only [laws_eqMemberS.l0, laws_eqMember.f, if_true, bne_self_eq_false, Bool.false_eq_true, if_false, Option.bind_some]
      rw [if_pos (by omega), if_pos (by omega), if_pos (by omega), wrapSucc (by omega)])
    () trivial
  refine Ev.congr (fun k => ?_) key
  simp only [laws_eqMemberS.f, if_true]

theorem rdOfIn {xs : List Bool} {i : Nat} (h : i < xs.length) : rdOf false xs (i : Int) = xs[i] := by
  unfold rdOf
  rw [Int.toNat_natCast, getD_lt h]
theorem toBoolS_ev {l : List Bool} (hl : l.length ≤ 1048576) : Ev (fun k => laws_toBoolS.f k l) l := by
  have key := evScan l (fun k (acc : List Bool) i => laws_toBoolS.l0 k l acc i) (fun _ _ _ => l) (fun acc i => acc.length = l.length ∧ acc.take i = l.take i) (fun acc ⟨h0, h1⟩ => by
      refine Ev.step (f := fun _ => some acc) (fun k => ?_) ?_
      · simp only [laws_toBoolS.l0]
        rw [if_neg (by omega)]
      · rw [take_whole h0 h1]
        exact Ev.now _) (fun acc i t h ht ⟨h0, h1⟩ ih => by
      refine Ev.step (fun k => ?_) (ih (acc.set i l[i]) ⟨by simpa using h0, take_set_succ h h0 h1⟩)
      simp only [laws_toBoolS.l0]
      rw [if_pos (by omega), if_pos (by omega), if_pos (by omega), rdOfIn h, wrapSucc (by omega), toNatCast])
    (List.replicate l.length false) ⟨by simp, by simp⟩
  refine Ev.congr (fun k => ?_) key
  simp only [laws_toBoolS.f]
  rw [if_pos (by omega), if_pos (by omega), toNatCast]
theorem eqBoolS_same {a : List Bool} (ha : a.length ≤ 1048576) : Ev (fun k => laws_eqBoolS.f k a a) true := by
  have key := evScan a (fun k (_ : Unit) i => laws_eqBoolS.l0 k a a i) (fun _ _ _ => true) (fun _ _ => True) (fun _ _ => by
      refine Ev.step (f := fun _ => some true) (fun k => ?_) (Ev.now _)
      simp only [laws_eqBoolS.l0]
      rw [if_neg (by omega)]) (fun _ i t h _ _ ih => by
      refine Ev.step (fun k => ?_) (ih () trivial)
      simp only [laws_eqBoolS.l0, bne_self_eq_false, Bool.false_eq_true, if_false]
      rw [if_pos (by omega), if_pos (by omega), if_pos (by omega), wrapSucc (by omega)])
    () trivial
  refine Ev.congr (fun k => ?_) key
  simp only [laws_eqBoolS.f, if_true]
theorem szBoolS_ok {l : List Bool} {q : Int} (hl : l.length ≤ maxLen) (h0 : 0 ≤ q) (h1 : q ≤ 1048576) : laws_szBoolS.f l q = some (if (l.length : Int) ≤ q then q - (l.length : Int) else -1) := by
  unfold laws_szBoolS.f
  unfold maxLen at hl
  rw [wrapId (n := q - (l.length : Int)) (by omega) (by omega)]
  by_cases c : (l.length : Int) ≤ q
  · rw [if_neg (by omega), if_pos c]
  · rw [if_pos (by omega), if_neg c]
theorem szParty_ok {a f : Int} {l : List S93} {p : List Bool} {q : Int} (hl : l.length ≤ maxLen) (hp : p.length ≤ maxLen) (h0 : 0 ≤ q) (h1 : q ≤ 1048576) :
    laws_szParty.f a f l p q = some (if (l.length : Int) + (p.length : Int) ≤ q then q - (l.length : Int) - (p.length : Int) else -1) := by
  unfold laws_szParty.f
  rw [szMemberS_ok hl h0 h1, Option.bind_some]
  by_cases c : (l.length : Int) ≤ q
  · rw [if_pos c, if_neg (by omega), szBoolS_ok hp (by omega) (by omega), Option.bind_some]
    by_cases d : (p.length : Int) ≤ q - (l.length : Int)
    · rw [if_pos d, if_neg (by omega), if_pos (by omega)]
    · rw [if_neg d, if_pos (by omega), if_neg (by omega)]
  · rw [if_neg c, if_pos (by omega), if_neg (by omega)]
theorem toParty_ev {a f : Int} {l : List S93} {p : List Bool} (hl : l.length ≤ 1048576) (hp : p.length ≤ 1048576) : Ev (fun k => laws_toParty.f k a f l p) (a, f, l.map mem, p) := by
  unfold laws_toParty.f
  exact Ev.bind (toMemberS_ev hl) (Ev.bind (toBoolS_ev hp) (Ev.now _))
theorem eqParty_same {a f : Int} {l : List S71} {p : List Bool} (hl : l.length ≤ 1048576) (hp : p.length ≤ 1048576) : Ev (fun k => laws_eqParty.f k a f l p a f l p) true := by
  unfold laws_eqParty.f
  exact evPos rfl (evPos rfl (Ev.bind (eqMemberS_same hl) (evPos rfl (Ev.bind (eqBoolS_same hp) (evPos rfl (Ev.now _))))))

theorem l1In_eq (a b c : Int) : spec_l1In.f a b c = some (decide (b ≤ a ∧ a ≤ c)) := by
  unfold spec_l1In.f
  by_cases h : b ≤ a
  · rw [if_pos h]
    simp [h]
  · rw [if_neg h]
    simp [h]
theorem inRange_eq (a b c : Int) : impl_InRange.f a b c = some (decide (b ≤ a ∧ a ≤ c)) := by
  unfold impl_InRange.f
  by_cases h : b ≤ a
  · rw [if_pos h]
    simp [h]
  · rw [if_neg h]
    simp [h]

def okM (m : S71) : Bool := decide ((1 ≤ m.f0 ∧ m.f0 ≤ 99) ∧ (0 ≤ m.f1 ∧ m.f1 ≤ 100) ∧ (1 ≤ m.f2 ∧ m.f2 ≤ 10))
/-- Members of a crew, behind one whose number is p. -/
def crewFrom : Int → List S71 → Bool
  | _, [] => true
  | p, m :: t => okM m && (decide (p < m.f0) && crewFrom m.f0 t)
def areCrew (l : List S71) : Bool := crewFrom 0 l && decide (1 ≤ l.length ∧ l.length ≤ 8)
def prevId (l : List S71) (i : Nat) : Int := if i = 0 then 0 else (l.getD (i - 1) z71).f0
theorem prevId_succ {l : List S71} {i : Nat} (h : i < l.length) : prevId l (i + 1) = l[i].f0 := by
  unfold prevId
  rw [if_neg (by omega), Nat.add_sub_cancel, getD_lt h]
theorem prevId_pos {l : List S71} {i : Nat} (hl : l.length ≤ 100000000) (h : i ≤ l.length) (h0 : 0 < i) : prevId l i = (rd_T71 l (wrap64 ((i : Int) - 1))).f0 := by
  rw [wrapId (n := (i : Int) - 1) (by omega) (by omega), show ((i : Int) - 1) = ((i - 1 : Nat) : Int) by omega, rdM (by omega)]
  unfold prevId
  rw [if_neg (by omega), getD_lt (by omega)]
theorem crewFrom_ok : ∀ {l : List S71} {p : Int}, crewFrom p l = true → ∀ m ∈ l, okM m = true
  | [], _, _, m, h => by cases h
  | x :: t, p, e, m, h => by
    simp only [crewFrom, Bool.and_eq_true] at e
    rcases List.mem_cons.1 h with rfl | h
    · exact e.1
    · exact crewFrom_ok e.2.2 m h
theorem areCrew_len {l : List S71} (e : areCrew l = true) : 1 ≤ l.length ∧ l.length ≤ 8 := by
  unfold areCrew at e
  simp only [Bool.and_eq_true, decide_eq_true_eq] at e
  exact e.2
theorem areCrew_ok {l : List S71} (e : areCrew l = true) : ∀ m ∈ l, (1 ≤ m.f0 ∧ m.f0 ≤ 99) ∧ (0 ≤ m.f1 ∧ m.f1 ≤ 100) ∧ (1 ≤ m.f2 ∧ m.f2 ≤ 10) := by
  intro m hm
  unfold areCrew at e
  simp only [Bool.and_eq_true] at e
  have := crewFrom_ok e.1 m hm
  unfold okM at this
  exact of_decide_eq_true this

theorem impl_AreCrew_ev {l : List S71} (hl : l.length ≤ 100000000) : Ev (fun k => impl_AreCrew.f k l) (areCrew l) := by
  have key := evScan l (fun k (_ : Unit) i => impl_AreCrew.l0 k l l (l.length : Int) i) (fun _ i t => crewFrom (prevId l i) t && decide (1 ≤ l.length ∧ l.length ≤ 8)) (fun _ _ => True) (fun _ _ => by
      refine Ev.step (f := fun _ => some (decide (1 ≤ l.length ∧ l.length ≤ 8))) (fun k => ?_) ?_
      · simp only [impl_AreCrew.l0, inRange_eq, Option.bind_some]
        rw [if_neg (by omega), Option.some.injEq, decide_eq_decide]
        omega
      · simp only [crewFrom, Bool.true_and]
        exact Ev.now _) (fun _ i t h ht _ ih => by
      have ih := ih () trivial
      rw [prevId_succ h] at ih
      have st : ∀ k, impl_AreCrew.l0 (k + 1) l l (l.length : Int) (i : Int) = if okM l[i] = true ∧ prevId l i < l[i].f0 then impl_AreCrew.l0 k l l (l.length : Int) ((i + 1 : Nat) : Int) else some false := by
        intro k
        simp only [impl_AreCrew.l0, inRange_eq, Option.bind_some]
        rw [if_pos (by omega), if_pos (by omega), if_pos (by omega), rdM h, wrapSucc (by omega)]
        unfold okM
        by_cases c0 : 1 ≤ l[i].f0 ∧ l[i].f0 ≤ 99
        · by_cases c1 : 0 < i
          · rw [← prevId_pos hl (by omega) c1]
            have w1 : wrap64 ((i : Int) - 1) = ((i - 1 : Nat) : Int) := by rw [wrapId (n := (i : Int) - 1) (by omega) (by omega)]; omega
            rw [w1]
            have g1 : (i : Int) > 0 := by omega
            have g2 : (0 : Int) ≤ ((i - 1 : Nat) : Int) := by omega
            have g3 : ((i - 1 : Nat) : Int) < (l.length : Int) := by omega
            by_cases c2 : l[i].f0 ≤ prevId l i
            · have n2 : ¬ prevId l i < l[i].f0 := by omega
              simp only [c0, and_self, decide_true, if_true, if_pos g1, if_pos g2, if_pos g3, if_pos c2, n2, and_false, if_false]
            · have n2 : prevId l i < l[i].f0 := by omega
              by_cases c3 : 0 ≤ l[i].f1 ∧ l[i].f1 ≤ 100
              · by_cases c4 : 1 ≤ l[i].f2 ∧ l[i].f2 ≤ 10
                · simp only [c0, c3, c4, and_self, decide_true, if_true, if_pos g1, if_pos g2, if_pos g3, if_neg c2, n2]
                · simp only [c0, c3, c4, and_self, decide_true, decide_false, if_true, if_false, Bool.false_eq_true, if_pos g1, if_pos g2, if_pos g3, if_neg c2, and_false, false_and]
              · simp only [c0, c3, and_self, decide_true, decide_false, if_true, if_false, Bool.false_eq_true, if_pos g1, if_pos g2, if_pos g3, if_neg c2, and_false, false_and]
          · have g1 : ¬ ((i : Int) > 0) := by omega
            have n2 : prevId l i < l[i].f0 := by
              unfold prevId
              rw [if_pos (by omega)]
              omega
            by_cases c3 : 0 ≤ l[i].f1 ∧ l[i].f1 ≤ 100
            · by_cases c4 : 1 ≤ l[i].f2 ∧ l[i].f2 ≤ 10
              · simp only [c0, c3, c4, and_self, decide_true, if_true, if_neg g1, n2]
              · simp only [c0, c3, c4, and_self, decide_true, decide_false, if_true, if_false, Bool.false_eq_true, if_neg g1, and_false, false_and]
            · simp only [c0, c3, and_self, decide_true, decide_false, if_true, if_false, Bool.false_eq_true, if_neg g1, and_false, false_and]
        · simp [c0]
      refine Ev.step st ?_
      by_cases c : okM l[i] = true ∧ prevId l i < l[i].f0
      · refine evPos c ?_
        simp only [crewFrom, c.1, c.2, decide_true, Bool.true_and]
        exact ih
      · refine evNeg c ?_
        have e : crewFrom (prevId l i) (l[i] :: t) = false := by
          simp only [crewFrom]
          by_cases d : okM l[i] = true
          · have n : ¬ prevId l i < l[i].f0 := fun x => c ⟨d, x⟩
            simp [n]
          · simp [d]
        rw [e, Bool.false_and]
        exact Ev.now _)
    () trivial
  unfold impl_AreCrew.f
  exact key

def capSum : List S71 → Int
  | [] => 0
  | m :: t => (if m.f3 = true then 0 else m.f1) + capSum t
def capOf (l : List S71) : Int := if areCrew l = true then capSum l else 0

theorem impl_CapOf_ev {l : List S71} (hl : l.length ≤ 100000000) : Ev (fun k => impl_CapOf.f k l) (capOf l) := by
  unfold impl_CapOf.f capOf
  refine Ev.bind (impl_AreCrew_ev hl) ?_
  by_cases c : areCrew l = true
  · simp only [c, if_true]
    have hb := areCrew_ok c
    have hn := areCrew_len c
    have key := evScan l (fun k (acc : Int) i => impl_CapOf.l0 k acc l (l.length : Int) i) (fun acc _ t => acc + capSum t) (fun acc i => 0 ≤ acc ∧ acc ≤ 100 * (i : Int)) (fun acc _ => by
        refine Ev.step (f := fun _ => some acc) (fun k => ?_) ?_
        · simp only [impl_CapOf.l0]
          rw [if_neg (by omega)]
        · simp only [capSum, Int.add_zero]
          exact Ev.now _) (fun acc i t h ht hi ih => by
        have hm := hb l[i] (List.getElem_mem h)
        have st : ∀ k, impl_CapOf.l0 (k + 1) acc l (l.length : Int) (i : Int) = if l[i].f3 = true then impl_CapOf.l0 k acc l (l.length : Int) ((i + 1 : Nat) : Int) else impl_CapOf.l0 k (acc + l[i].f1) l (l.length : Int) ((i + 1 : Nat) : Int) := by
          intro k
          simp only [impl_CapOf.l0]
          rw [if_pos (by omega), if_pos (by omega), if_pos (by omega), rdM h, wrapSucc (by omega), wrapId (n := acc + l[i].f1) (by omega) (by omega)]
        refine Ev.step st ?_
        by_cases d : l[i].f3 = true
        · refine evPos d ?_
          have := ih acc (by omega)
          simpa [capSum, d] using this
        · refine evNeg d ?_
          have := ih (acc + l[i].f1) (by omega)
          simp only [capSum, d]
          rw [show acc + ((if false = true then 0 else l[i].f1) + capSum t) = acc + l[i].f1 + capSum t by simp; omega]
          exact this)
      0 (by omega)
    simpa using key
  · simp only [c]
    exact Ev.now _

theorem spec_AreCrew_ev {l : List S71} (hl : l.length ≤ 100000000) : Ev (fun k => spec_AreCrew.f k l) (areCrew l) := by
  have key := evScan l (fun k (_ : Unit) i => spec_AreCrew.l0 k l i) (fun _ i t => crewFrom (prevId l i) t && decide (1 ≤ l.length ∧ l.length ≤ 8)) (fun _ _ => True) (fun _ _ => by
      refine Ev.step (f := fun _ => some (decide (1 ≤ l.length ∧ l.length ≤ 8))) (fun k => ?_) ?_
      · simp only [spec_AreCrew.l0, l1In_eq, Option.bind_some]
        rw [if_neg (by omega), Option.some.injEq, decide_eq_decide]
        omega
      · simp only [crewFrom, Bool.true_and]
        exact Ev.now _) (fun _ i t h ht _ ih => by
      have ih := ih () trivial
      rw [prevId_succ h] at ih
      have st : ∀ k, spec_AreCrew.l0 (k + 1) l (i : Int) = if okM l[i] = true ∧ prevId l i < l[i].f0 then spec_AreCrew.l0 k l ((i + 1 : Nat) : Int) else some false := by
        intro k
        simp only [spec_AreCrew.l0, l1In_eq, Option.bind_some]
        rw [if_pos (by omega), if_pos (by omega), rdM h, wrapSucc (by omega)]
        unfold okM
        by_cases c0 : 1 ≤ l[i].f0 ∧ l[i].f0 ≤ 99
        · by_cases c3 : 0 ≤ l[i].f1 ∧ l[i].f1 ≤ 100
          · by_cases c4 : 1 ≤ l[i].f2 ∧ l[i].f2 ≤ 10
            · by_cases c1 : 0 < i
              · rw [← prevId_pos hl (by omega) c1]
                have w1 : wrap64 ((i : Int) - 1) = ((i - 1 : Nat) : Int) := by rw [wrapId (n := (i : Int) - 1) (by omega) (by omega)]; omega
                rw [w1]
                have g1 : (i : Int) > 0 := by omega
                have g2 : (0 : Int) ≤ ((i - 1 : Nat) : Int) := by omega
                have g3 : ((i - 1 : Nat) : Int) < (l.length : Int) := by omega
                by_cases c2 : prevId l i ≥ l[i].f0
                · have n2 : ¬ prevId l i < l[i].f0 := by omega
                  simp only [c0, c3, c4, and_self, decide_true, if_true, if_pos g1, if_pos g2, if_pos g3, if_pos c2, n2, and_false, if_false]
                · have n2 : prevId l i < l[i].f0 := by omega
                  simp only [c0, c3, c4, and_self, decide_true, if_true, if_pos g1, if_pos g2, if_pos g3, if_neg c2, n2]
              · have g1 : ¬ ((i : Int) > 0) := by omega
                have n2 : prevId l i < l[i].f0 := by
                  unfold prevId
                  rw [if_pos (by omega)]
                  omega
                simp only [c0, c3, c4, and_self, decide_true, if_true, if_neg g1, n2]
            · simp [c0, c3, c4]
          · simp [c0, c3]
        · simp [c0]
      refine Ev.step st ?_
      by_cases c : okM l[i] = true ∧ prevId l i < l[i].f0
      · refine evPos c ?_
        simp only [crewFrom, c.1, c.2, decide_true, Bool.true_and]
        exact ih
      · refine evNeg c ?_
        have e : crewFrom (prevId l i) (l[i] :: t) = false := by
          simp only [crewFrom]
          by_cases d : okM l[i] = true
          · have n : ¬ prevId l i < l[i].f0 := fun x => c ⟨d, x⟩
            simp [n]
          · simp [d]
        rw [e, Bool.false_and]
        exact Ev.now _)
    () trivial
  unfold spec_AreCrew.f
  exact key

theorem spec_CapOf_ev {l : List S71} (hl : l.length ≤ 100000000) : Ev (fun k => spec_CapOf.f k l) (capOf l) := by
  unfold spec_CapOf.f capOf
  have fin : ∀ (acc i : Int), Ev (fun k => spec_CapOf.j1 k l acc i false) acc := by
    intro acc i
    refine Ev.step (f := fun _ => some acc) (fun k => ?_) (Ev.now _)
    simp only [spec_CapOf.j1, Bool.false_eq_true, if_false]
  by_cases c : areCrew l = true
  · rw [if_pos c]
    have hb := areCrew_ok c
    have hn := areCrew_len c
    have key := evScan l (fun k (acc : Int) i => spec_CapOf.l0 k l acc i) (fun acc _ t => acc + capSum t) (fun acc i => 0 ≤ acc ∧ acc ≤ 100 * (i : Int)) (fun acc _ => by
        rw [show acc + capSum [] = acc by simp [capSum]]
        refine Ev.step (fun k => ?_) (fin acc (l.length : Int))
        simp only [spec_CapOf.l0]
        rw [if_neg (by omega)]) (fun acc i t h ht hi ih => by
        have hm := hb l[i] (List.getElem_mem h)
        have st : ∀ k, spec_CapOf.l0 (k + 1) l acc (i : Int) = (spec_AreCrew.f k l).bind fun b => spec_CapOf.j1 k l acc (i : Int) b := by
          intro k
          simp only [spec_CapOf.l0]
          rw [if_pos (by omega)]
        have st1 : ∀ k, spec_CapOf.j1 (k + 1) l acc (i : Int) true = if l[i].f3 = true then spec_CapOf.l0 k l acc ((i + 1 : Nat) : Int) else spec_CapOf.l0 k l (acc + l[i].f1) ((i + 1 : Nat) : Int) := by
          intro k
          simp only [spec_CapOf.j1, if_true]
          rw [if_pos (by omega), if_pos (by omega), rdM h, wrapSucc (by omega), wrapId (n := acc + l[i].f1) (by omega) (by omega)]
        refine Ev.step st (Ev.bind (spec_AreCrew_ev hl) ?_)
        simp only [c]
        refine Ev.step st1 ?_
        by_cases d : l[i].f3 = true
        · refine evPos d ?_
          have := ih acc (by omega)
          simpa [capSum, d] using this
        · refine evNeg d ?_
          have := ih (acc + l[i].f1) (by omega)
          simp only [capSum, d]
          rw [show acc + ((if false = true then 0 else l[i].f1) + capSum t) = acc + l[i].f1 + capSum t by simp; omega]
          exact this)
      0 (by omega)
    simpa using key
  · rw [if_neg c]
    by_cases e : 0 < l.length
    · refine Ev.step (f := fun k => (spec_AreCrew.f k l).bind fun b => spec_CapOf.j1 k l 0 0 b) (fun k => ?_) (Ev.bind (spec_AreCrew_ev hl) ?_)
      · simp only [spec_CapOf.l0]
        rw [if_pos (by omega)]
      · simp only [c]
        exact fin 0 0
    · refine Ev.step (fun k => ?_) (fin 0 0)
      simp only [spec_CapOf.l0]
      rw [if_neg (by omega)]

theorem capSum_le : ∀ {l : List S71}, (∀ m ∈ l, 0 ≤ m.f1 ∧ m.f1 ≤ 100) → 0 ≤ capSum l ∧ capSum l ≤ 100 * (l.length : Int)
  | [], _ => by simp [capSum]
  | m :: t, h => by
    have h0 := h m List.mem_cons_self
    have h1 := capSum_le (l := t) (fun x hx => h x (List.mem_cons_of_mem _ hx))
    simp only [capSum, List.length_cons, Int.natCast_add]
    split <;> omega
theorem capOf_le (l : List S71) : 0 ≤ capOf l ∧ capOf l ≤ 800 := by
  unfold capOf
  by_cases c : areCrew l = true
  · rw [if_pos c]
    have h0 := capSum_le (l := l) (fun m hm => (areCrew_ok c m hm).2.1)
    have h1 := areCrew_len c
    omega
  · rw [if_neg c]
    omega

def roomFor (f : Int) (l : List S71) : Int := if f < 0 then 0 else if f ≥ capOf l then 0 else capOf l - f
theorem impl_Room_ev {a f : Int} {l : List S71} {p : List Bool} (hl : l.length ≤ 100000000) : Ev (fun k => impl_RoomFor.f k a f l p) (roomFor f l) := by
  unfold impl_RoomFor.f
  have hc := capOf_le l
  by_cases d : f < 0
  · rw [show roomFor f l = 0 by unfold roomFor; rw [if_pos d]]
    exact evPos d (Ev.now _)
  · refine evNeg d (Ev.bind (impl_CapOf_ev hl) ?_)
    by_cases e : f ≥ capOf l
    · rw [show roomFor f l = 0 by unfold roomFor; rw [if_neg d, if_pos e]]
      exact evPos e (Ev.now _)
    · rw [show roomFor f l = capOf l - f by unfold roomFor; rw [if_neg d, if_neg e]]
      refine evNeg e (Ev.bind (impl_CapOf_ev hl) ?_)
      rw [wrapId (n := capOf l - f) (by omega) (by omega)]
      exact Ev.now _
theorem spec_Room_ev {a f : Int} {l : List S71} {p : List Bool} (hl : l.length ≤ 100000000) : Ev (fun k => spec_RoomFor.f k a f l p) (roomFor f l) := by
  unfold spec_RoomFor.f
  have hc := capOf_le l
  refine Ev.bind (spec_CapOf_ev hl) ?_
  by_cases d : f < 0
  · rw [show roomFor f l = 0 by unfold roomFor; rw [if_pos d]]
    exact evPos d (Ev.now _)
  · refine evNeg d ?_
    by_cases e : f ≥ capOf l
    · rw [show roomFor f l = 0 by unfold roomFor; rw [if_neg d, if_pos e]]
      exact evPos e (Ev.now _)
    · rw [show roomFor f l = capOf l - f by unfold roomFor; rw [if_neg d, if_neg e]]
      refine evNeg e ?_
      rw [wrapId (n := capOf l - f) (by omega) (by omega)]
      exact Ev.now _
def okS93 (x : S93) : Prop := (Lit.int .i64 x.f0).wf = true ∧ (Lit.int .i64 x.f1).wf = true ∧ (Lit.int .i64 x.f2).wf = true ∧ True
def FnExactRoomFor.Claim : Prop := ∀ (a0_0 : Int) (a0_1 : Int) (l0_2 : List (S93)) (l0_3 : List (Bool)), (Lit.int .i64 a0_0).wf = true → (Lit.int .i64 a0_1).wf = true → l0_2.length ≤ maxLen → (∀ x ∈ l0_2, okS93 x) → l0_3.length ≤ maxLen → (∀ x ∈ l0_3, True) → ∃ k, laws_FnExactRoomFor.f k a0_0 a0_1 l0_2 l0_3 = some true
theorem FnExactRoomFor : FnExactRoomFor.Claim := by
  intro a f l p _ _ hm _ hp _
  apply Ev.rounds
  unfold laws_FnExactRoomFor.f
  rw [szParty_ok hm hp (by omega) (by omega)]
  simp only [Option.bind_some]
  by_cases c : (l.length : Int) + (p.length : Int) ≤ 1048576
  · rw [if_pos c]
    refine evNeg (by omega) ?_
    have hl : l.length ≤ 1048576 := by omega
    have hp' : p.length ≤ 1048576 := by omega
    have hl' : (l.map mem).length ≤ 1048576 := by rw [List.length_map]; exact hl
    have h8 : (l.map mem).length ≤ 100000000 := by omega
    exact Ev.bind (toParty_ev hl hp') (Ev.bind (spec_Room_ev h8) (Ev.bind (toParty_ev hl hp') (Ev.bind (impl_Room_ev h8) (evPos rfl (Ev.bind (toParty_ev hl hp') (Ev.bind (eqParty_same hl' hp') (evPos rfl (Ev.now _))))))))
  · rw [if_neg c]
    exact evPos (by omega) (Ev.now _)
end Go.Proofs.Ytkdclkbgejbgjae.Pure
