/- The law Crew: whatever the bytes of the draw: the ill eat but do not carry, and the strongest one is one who is well: the law's Go function answers true. No condition beyond the kinds of the numbers. -/
import Derived.Test.YtkdclkbgejbgjaePFnCrewx4
import Derived.Test.YtkdclkbgejbgjaeAid
import Derived.Laws.BitsLemmas
namespace Go.Proofs.Ytkdclkbgejbgjae.Pure
open Go.RowKit Go.Proofs.Ytkdclkbgejbgjae.PFnCrew Go.Proofs.Ytkdclkbgejbgjae.Aid Go.Proofs.YtkdclkbgejbgjaeW.PrintWords Go.Proofs.YtkdclkbgejbgjaeW.PrintLast Go.Proofs.YtkdclkbgejbgjaeW.PrintMore
set_option linter.unusedVariables false
set_option linter.unusedSimpArgs false
theorem evScanP {α σ ρ : Type} (xs : List α) (l : Nat → σ → Int → Option ρ) (P : ρ → Prop) (I : σ → Nat → Prop) (hend : ∀ s, I s xs.length → Evp (fun k => l k s (xs.length : Int)) P)
    (hstep : ∀ s i (h : i < xs.length), I s i → (∀ s', I s' (i + 1) → Evp (fun k => l k s' ((i + 1 : Nat) : Int)) P) → Evp (fun k => l k s (i : Int)) P) : ∀ s, I s 0 → Evp (fun k => l k s 0) P := by
  have key : ∀ (d i : Nat), i + d = xs.length → ∀ s, I s i → Evp (fun k => l k s (i : Int)) P := by
    intro d
    induction d with
    | zero =>
      intro i hi s hs
      obtain rfl : i = xs.length := by omega
      exact hend s hs
    | succ d ih =>
      intro i hi s hs
      exact hstep s i (by omega) hs (fun s' hs' => ih (i + 1) (by omega) s' hs')
  intro s hs
  exact key xs.length 0 (by omega) s hs

theorem rdM {xs : List S71} {i : Nat} (h : i < xs.length) : rd_T71 xs (i : Int) = xs[i] := by
  unfold rd_T71
  rw [Int.toNat_natCast, getD_lt h]

def okM (m : S71) : Bool := decide ((1 ≤ m.f0 ∧ m.f0 ≤ 99) ∧ (0 ≤ m.f1 ∧ m.f1 ≤ 100) ∧ (1 ≤ m.f2 ∧ m.f2 ≤ 10))
/-- Members of a crew, behind one whose number is p. -/
def crewFrom : Int → List S71 → Bool
  | _, [] => true
  | p, m :: t => okM m && (decide (p < m.f0) && crewFrom m.f0 t)
def areCrew (l : List S71) : Bool := crewFrom 0 l && decide (1 ≤ l.length ∧ l.length ≤ 8)
def prevId (l : List S71) (i : Nat) : Int := if i = 0 then 0 else (l.getD (i - 1) z71).f0
theorem prevId_succ {l : List S71} {i : Nat} (h : i < l.length) : prevId l (i + 1) = l[i].f0 := by
  unfold prevId
  rw [if_neg (by omega), Nat.add_sub_cancel, getD_lt h]
theorem prevId_pos {l : List S71} {i : Nat} (hl : l.length ≤ 100000000) (h : i ≤ l.length) (h0 : 0 < i) : prevId l i = (rd_T71 l (wrap64 ((i : Int) - 1))).f0 := by
  rw [wrapId (n := (i : Int) - 1) (by omega) (by omega), show ((i : Int) - 1) = ((i - 1 : Nat) : Int) by omega, rdM (by omega)]
  unfold prevId
  rw [if_neg (by omega), getD_lt (by omega)]
theorem crewFrom_ok : ∀ {l : List S71} {p : Int}, crewFrom p l = true → ∀ m ∈ l, okM m = true
  | [], _, _, m, h => by cases h
  | x :: t, p, e, m, h => by
    simp only [crewFrom, Bool.and_eq_true] at e
    rcases List.mem_cons.1 h with rfl | h
    · exact e.1
    · exact crewFrom_ok e.2.2 m h
theorem areCrew_len {l : List S71} (e : areCrew l = true) : 1 ≤ l.length ∧ l.length ≤ 8 := by
  unfold areCrew at e
  simp only [Bool.and_eq_true, decide_eq_true_eq] at e
  exact e.2
theorem areCrew_ok {l : List S71} (e : areCrew l = true) : ∀ m ∈ l, (1 ≤ m.f0 ∧ m.f0 ≤ 99) ∧ (0 ≤ m.f1 ∧ m.f1 ≤ 100) ∧ (1 ≤ m.f2 ∧ m.f2 ≤ 10) := by
  intro m hm
  unfold areCrew at e
  simp only [Bool.and_eq_true] at e
  have := crewFrom_ok e.1 m hm
  unfold okM at this
  exact of_decide_eq_true this

def ill (b : Bool) (m : S71) : S71 := ⟨m.f0, m.f1, m.f2, b⟩
def setFirst (n : Int) (b : Bool) : List S71 → List S71
  | [] => []
  | m :: t => if m.f0 = n then ill b m :: t else m :: setFirst n b t
def anyId (n : Int) : List S71 → Bool
  | [] => false
  | m :: t => decide (m.f0 = n) || anyId n t
theorem setFirst_length (n : Int) (b : Bool) : ∀ l : List S71, (setFirst n b l).length = l.length
  | [] => rfl
  | m :: t => by
    simp only [setFirst]
    split
    · rfl
    · simp [setFirst_length n b t]
def setAll (n : Int) (b : Bool) (l : List S71) : List S71 := l.map (fun m => if m.f0 = n then ill b m else m)
theorem setAll_none {n : Int} {b : Bool} : ∀ {l : List S71} {p : Int}, crewFrom p l = true → n ≤ p → setAll n b l = l
  | [], _, _, _ => rfl
  | m :: t, p, e, h => by
    simp only [crewFrom, Bool.and_eq_true, decide_eq_true_eq] at e
    have := setAll_none (b := b) e.2.2 (by omega : n ≤ m.f0)
    unfold setAll at this ⊢
    rw [List.map_cons, this, if_neg (by omega)]
theorem setAll_first {n : Int} {b : Bool} : ∀ {l : List S71} {p : Int}, crewFrom p l = true → setAll n b l = setFirst n b l
  | [], _, _ => rfl
  | m :: t, p, e => by
    simp only [crewFrom, Bool.and_eq_true, decide_eq_true_eq] at e
    simp only [setFirst]
    by_cases c : m.f0 = n
    · have := setAll_none (b := b) e.2.2 (by omega : n ≤ m.f0)
      unfold setAll at this ⊢
      rw [if_pos c, List.map_cons, if_pos c, this]
    · have := setAll_first (n := n) (b := b) e.2.2
      unfold setAll at this ⊢
      rw [if_neg c, List.map_cons, if_neg c, this]
def setIll (l : List S71) (n : Int) (b : Bool) : List S71 × Bool := if areCrew l = true then (setFirst n b l, anyId n l) else (l, false)
theorem setIll_length (l : List S71) (n : Int) (b : Bool) : (setIll l n b).1.length = l.length := by
  unfold setIll
  split
  · exact setFirst_length n b l
  · rfl

theorem inRange_eq (a b c : Int) : impl_InRange.f a b c = some (decide (b ≤ a ∧ a ≤ c)) := by
  unfold impl_InRange.f
  by_cases h : b ≤ a
  · rw [if_pos h]
    simp [h]
  · rw [if_neg h]
    simp [h]

theorem impl_AreCrew_ev {l : List S71} (hl : l.length ≤ 100000000) : Ev (fun k => impl_AreCrew.f k l) (areCrew l) := by
  have key := evScan l (fun k (_ : Unit) i => impl_AreCrew.l0 k l l (l.length : Int) i) (fun _ i t => crewFrom (prevId l i) t && decide (1 ≤ l.length ∧ l.length ≤ 8)) (fun _ _ => True) (fun _ _ => by
      refine Ev.step (f := fun _ => some (decide (1 ≤ l.length ∧ l.length ≤ 8))) (fun k => ?_) ?_
      · simp only [impl_AreCrew.l0, inRange_eq, Option.bind_some]
        rw [if_neg (by omega), Option.some.injEq, decide_eq_decide]
        omega
      · simp only [crewFrom, Bool.true_and]
        exact Ev.now _) (fun _ i t h ht _ ih => by
      have ih := ih () trivial
      rw [prevId_succ h] at ih
      have st : ∀ k, impl_AreCrew.l0 (k + 1) l l (l.length : Int) (i : Int) = if okM l[i] = true ∧ prevId l i < l[i].f0 then impl_AreCrew.l0 k l l (l.length : Int) ((i + 1 : Nat) : Int) else some false := by
        intro k
        simp only [impl_AreCrew.l0, inRange_eq, Option.bind_some]
        rw [if_pos (by omega), if_pos (by omega), if_pos (by omega), rdM h, wrapSucc (by omega)]
        unfold okM
        by_cases c0 : 1 ≤ l[i].f0 ∧ l[i].f0 ≤ 99
        · by_cases c1 : 0 < i
          · rw [← prevId_pos hl (by omega) c1]
            have w1 : wrap64 ((i : Int) - 1) = ((i - 1 : Nat) : Int) := by rw [wrapId (n := (i : Int) - 1) (by omega) (by omega)]; omega
            rw [w1]
            have g1 : (i : Int) > 0 := by omega
            have g2 : (0 : Int) ≤ ((i - 1 : Nat) : Int) := by omega
            have g3 : ((i - 1 : Nat) : Int) < (l.length : Int) := by omega
            by_cases c2 : l[i].f0 ≤ prevId l i
            · have n2 : ¬ prevId l i < l[i].f0 := by omega
              simp only [c0, and_self, decide_true, if_true, if_pos g1, if_pos g2, if_pos g3, if_pos c2, n2, and_false, if_false]
            · have n2 : prevId l i < l[i].f0 := by omega
              by_cases c3 : 0 ≤ l[i].f1 ∧ l[i].f1 ≤ 100
              · by_cases c4 : 1 ≤ l[i].f2 ∧ l[i].f2 ≤ 10
                · simp only [c0, c3, c4, and_self, decide_true, if_true, if_pos g1, if_pos g2, if_pos g3, if_neg c2, n2]
                · simp only [c0, c3, c4, and_self, decide_true, decide_false, if_true, if_false, Bool.false_eq_true, if_pos g1, if_pos g2, if_pos g3, if_neg c2, and_false, false_and]
              · simp only [c0, c3, and_self, decide_true, decide_false, if_true, if_false, Bool.false_eq_true, if_pos g1, if_pos g2, if_pos g3, if_neg c2, and_false, false_and]
          · have g1 : ¬ ((i : Int) > 0) := by omega
            have n2 : prevId l i < l[i].f0 := by
              unfold prevId
              rw [if_pos (by omega)]
              omega
            by_cases c3 : 0 ≤ l[i].f1 ∧ l[i].f1 ≤ 100
            · by_cases c4 : 1 ≤ l[i].f2 ∧ l[i].f2 ≤ 10
              · simp only [c0, c3, c4, and_self, decide_true, if_true, if_neg g1, n2]
              · simp only [c0, c3, c4, and_self, decide_true, decide_false, if_true, if_false, Bool.false_eq_true, if_neg g1, and_false, false_and]
            · simp only [c0, c3, and_self, decide_true, decide_false, if_true, if_false, Bool.false_eq_true, if_neg g1, and_false, false_and]
        · simp [c0]
      refine Ev.step st ?_
      by_cases c : okM l[i] = true ∧ prevId l i < l[i].f0
      · refine evPos c ?_
        simp only [crewFrom, c.1, c.2, decide_true, Bool.true_and]
        exact ih
      · refine evNeg c ?_
        have e : crewFrom (prevId l i) (l[i] :: t) = false := by
          simp only [crewFrom]
          by_cases d : okM l[i] = true
          · have n : ¬ prevId l i < l[i].f0 := fun x => c ⟨d, x⟩
            simp [n]
          · simp [d]
        rw [e, Bool.false_and]
        exact Ev.now _)
    () trivial
  unfold impl_AreCrew.f
  exact key

theorem impl_SetIll_ev {l : List S71} (n : Int) (b : Bool) (hl : l.length ≤ 100000000) : Ev (fun k => impl_SetIll.f k l n b) (setIll l n b) := by
  unfold impl_SetIll.f impl_copyCrew.f setIll
  simp only [Option.bind_some, List.length_nil, Nat.zero_add, List.nil_append]
  rw [if_pos (show l.length < 4398046511104 by omega)]
  simp only [Option.bind_some]
  refine Ev.bind (impl_AreCrew_ev hl) ?_
  by_cases c : areCrew l = true
  · rw [if_pos c]
    refine evPos c ?_
    have key := evScan l (fun k (_ : Unit) i => impl_SetIll.l0 k n b l (l.length : Int) i) (fun _ i t => (l.take i ++ setFirst n b t, anyId n t)) (fun _ _ => True) (fun _ _ => by
        rw [List.take_length]
        simp only [setFirst, anyId, List.append_nil]
        refine Ev.step (f := fun _ => some (l, false)) (fun k => ?_) (Ev.now _)
        simp only [impl_SetIll.l0]
        rw [if_neg (by omega)]) (fun _ i t h ht _ ih => by
        have st : ∀ k, impl_SetIll.l0 (k + 1) n b l (l.length : Int) (i : Int) = if l[i].f0 = n then some (l.set i (ill b l[i]), true) else impl_SetIll.l0 k n b l (l.length : Int) ((i + 1 : Nat) : Int) := by
          intro k
          simp only [impl_SetIll.l0]
          rw [if_pos (by omega), if_pos (by omega), if_pos (by omega), rdM h, wrapSucc (by omega), toNatCast]
          rfl
        refine Ev.step st ?_
        simp only [setFirst, anyId]
        by_cases d : l[i].f0 = n
        · rw [if_pos d, decide_eq_true d, Bool.true_or]
          refine evPos d ?_
          rw [show l.take i ++ ill b l[i] :: t = l.set i (ill b l[i]) by rw [List.set_eq_take_append_cons_drop, if_pos h, ht]]
          exact Ev.now _
        · rw [if_neg d, decide_eq_false d, Bool.false_or]
          refine evNeg d ?_
          have := ih () trivial
          rw [List.take_succ_eq_append_getElem h, List.append_assoc, List.singleton_append] at this
          exact this)
      () trivial
    simpa using key
  · rw [if_neg c]
    exact evNeg c (Ev.now _)

def needSum : List S71 → Int
  | [] => 0
  | m :: t => m.f2 + needSum t
def needOf (l : List S71) : Int := if areCrew l = true then needSum l else 0
theorem needSum_le : ∀ {l : List S71}, (∀ m ∈ l, 1 ≤ m.f2 ∧ m.f2 ≤ 10) → (l.length : Int) ≤ needSum l ∧ needSum l ≤ 10 * (l.length : Int)
  | [], _ => by simp [needSum]
  | m :: t, h => by
    have h0 := h m List.mem_cons_self
    have h1 := needSum_le (l := t) (fun x hx => h x (List.mem_cons_of_mem _ hx))
    simp only [needSum, List.length_cons, Int.natCast_add]
    omega
theorem needOf_crew {l : List S71} (c : areCrew l = true) : 1 ≤ needOf l ∧ needOf l ≤ 80 := by
  unfold needOf
  rw [if_pos c]
  have h0 := needSum_le (l := l) (fun m hm => (areCrew_ok c m hm).2.2)
  have h1 := areCrew_len c
  omega
theorem needOf_none {l : List S71} (c : ¬ areCrew l = true) : needOf l = 0 := by
  unfold needOf
  rw [if_neg c]

theorem impl_NeedOf_ev {l : List S71} (hl : l.length ≤ 100000000) : Ev (fun k => impl_NeedOf.f k l) (needOf l) := by
  unfold impl_NeedOf.f needOf
  refine Ev.bind (impl_AreCrew_ev hl) ?_
  by_cases c : areCrew l = true
  · rw [if_pos c]
    refine evPos c ?_
    have hb := areCrew_ok c
    have hn := areCrew_len c
    have key := evScan l (fun k (acc : Int) i => impl_NeedOf.l0 k acc l (l.length : Int) i) (fun acc _ t => acc + needSum t) (fun acc i => 0 ≤ acc ∧ acc ≤ 10 * (i : Int)) (fun acc _ => by
        rw [show acc + needSum [] = acc by simp [needSum]]
        refine Ev.step (f := fun _ => some acc) (fun k => ?_) (Ev.now _)
        simp only [impl_NeedOf.l0]
        rw [if_neg (by omega)]) (fun acc i t h ht hi ih => by
        have hm := hb l[i] (List.getElem_mem h)
        have := ih (acc + l[i].f2) (by omega)
        rw [show acc + l[i].f2 + needSum t = acc + needSum (l[i] :: t) by simp only [needSum]; omega] at this
        refine Ev.step (fun k => ?_) this
        simp only [impl_NeedOf.l0]
        rw [if_pos (by omega), if_pos (by omega), if_pos (by omega), rdM h, wrapSucc (by omega), wrapId (n := acc + l[i].f2) (by omega) (by omega)])
      0 (by omega)
    simpa using key
  · rw [if_neg c]
    exact evNeg c (Ev.now _)

def capSum : List S71 → Int
  | [] => 0
  | m :: t => (if m.f3 = true then 0 else m.f1) + capSum t
def capOf (l : List S71) : Int := if areCrew l = true then capSum l else 0

theorem impl_CapOf_ev {l : List S71} (hl : l.length ≤ 100000000) : Ev (fun k => impl_CapOf.f k l) (capOf l) := by
  unfold impl_CapOf.f capOf
  refine Ev.bind (impl_AreCrew_ev hl) ?_
  by_cases c : areCrew l = true
  · simp only [c, if_true]
    have hb := areCrew_ok c
    have hn := areCrew_len c
    have key := evScan l (fun k (acc : Int) i => impl_CapOf.l0 k acc l (l.length : Int) i) (fun acc _ t => acc + capSum t) (fun acc i => 0 ≤ acc ∧ acc ≤ 100 * (i : Int)) (fun acc _ => by
        refine Ev.step (f := fun _ => some acc) (fun k => ?_) ?_
        · simp only [impl_CapOf.l0]
          rw [if_neg (by omega)]
        · simp only [capSum, Int.add_zero]
          exact Ev.now _) (fun acc i t h ht hi ih => by
        have hm := hb l[i] (List.getElem_mem h)
        have st : ∀ k, impl_CapOf.l0 (k + 1) acc l (l.length : Int) (i : Int) = if l[i].f3 = true then impl_CapOf.l0 k acc l (l.length : Int) ((i + 1 : Nat) : Int) else impl_CapOf.l0 k (acc + l[i].f1) l (l.length : Int) ((i + 1 : Nat) : Int) := by
          intro k
          simp only [impl_CapOf.l0]
          rw [if_pos (by omega), if_pos (by omega), if_pos (by omega), rdM h, wrapSucc (by omega), wrapId (n := acc + l[i].f1) (by omega) (by omega)]
        refine Ev.step st ?_
        by_cases d : l[i].f3 = true
        · refine evPos d ?_
          have := ih acc (by omega)
          simpa [capSum, d] using this
        · refine evNeg d ?_
          have := ih (acc + l[i].f1) (by omega)
          simp only [capSum, d]
          rw [show acc + ((if false = true then 0 else l[i].f1) + capSum t) = acc + l[i].f1 + capSum t by simp; omega]
          exact this)
      0 (by omega)
    simpa using key
  · simp only [c]
    exact Ev.now _

theorem capSum_le : ∀ {l : List S71}, (∀ m ∈ l, 0 ≤ m.f1 ∧ m.f1 ≤ 100) → 0 ≤ capSum l ∧ capSum l ≤ 100 * (l.length : Int)
  | [], _ => by simp [capSum]
  | m :: t, h => by
    have h0 := h m List.mem_cons_self
    have h1 := capSum_le (l := t) (fun x hx => h x (List.mem_cons_of_mem _ hx))
    simp only [capSum, List.length_cons, Int.natCast_add]
    split <;> omega
theorem capOf_le (l : List S71) : 0 ≤ capOf l ∧ capOf l ≤ 800 := by
  unfold capOf
  by_cases c : areCrew l = true
  · rw [if_pos c]
    have h0 := capSum_le (l := l) (fun m hm => (areCrew_ok c m hm).2.1)
    have h1 := areCrew_len c
    omega
  · rw [if_neg c]
    omega

def healthy (l : List S71) : List Int := (l.filter (fun m => !m.f3)).map (·.f0)
theorem healthy_len (l : List S71) : (healthy l).length ≤ l.length := by
  unfold healthy
  rw [List.length_map]
  exact List.length_filter_le _ _
theorem impl_Healthy_ev {l : List S71} (hl : l.length ≤ 100000000) : Ev (fun k => impl_Healthy.f k l) (healthy l) := by
  have key := evScan l (fun k (acc : List Int) i => impl_Healthy.l0 k acc l (l.length : Int) i) (fun acc i t => acc ++ healthy t) (fun acc i => acc.length ≤ i) (fun acc _ => by
      rw [show acc ++ healthy [] = acc by simp [healthy]]
      refine Ev.step (f := fun _ => some acc) (fun k => ?_) (Ev.now _)
      simp only [impl_Healthy.l0]
      rw [if_neg (by omega)]) (fun acc i t h _ hi ih => by
      have st : ∀ k, impl_Healthy.l0 (k + 1) acc l (l.length : Int) (i : Int) = if l[i].f3 = true then impl_Healthy.l0 k acc l (l.length : Int) ((i + 1 : Nat) : Int) else impl_Healthy.l0 k (acc ++ [l[i].f0]) l (l.length : Int) ((i + 1 : Nat) : Int) := by
        intro k
        simp only [impl_Healthy.l0]
        rw [if_pos (by omega), if_pos (by omega), if_pos (by omega), rdM h, wrapSucc (by omega), if_pos (show acc.length < 17592186044416 by omega)]
      refine Ev.step st ?_
      by_cases d : l[i].f3 = true
      · refine evPos d ?_
        have := ih acc (by omega)
        simpa [healthy, d] using this
      · refine evNeg d ?_
        have := ih (acc ++ [l[i].f0]) (by simp; omega)
        simpa [healthy, d] using this)
    [] (by simp)
  unfold impl_Healthy.f
  simpa using key

theorem contains_ev {l : List Int} (n : Int) (hl : l.length ≤ 100000000) : Ev (fun k => laws_contains.f k l n) (decide (n ∈ l)) := by
  have key := evScan l (fun k (_ : Unit) i => laws_contains.l0 k l n i) (fun _ _ t => decide (n ∈ t)) (fun _ _ => True) (fun _ _ => by
      refine Ev.step (f := fun _ => some false) (fun k => ?_) (Ev.now _)
      simp only [laws_contains.l0]
      rw [if_neg (by omega)]) (fun _ i t h ht _ ih => by
      have st : ∀ k, laws_contains.l0 (k + 1) l n (i : Int) = if l[i] = n then some true else laws_contains.l0 k l n ((i + 1 : Nat) : Int) := by
        intro k
        simp only [laws_contains.l0]
        rw [if_pos (by omega), if_pos (by omega), rdIn h, wrapSucc (by omega)]
      refine Ev.step st ?_
      by_cases c : l[i] = n
      · refine evPos c ?_
        simp only [List.mem_cons, c, true_or, decide_true]
        exact Ev.now _
      · refine evNeg c ?_
        have := ih () trivial
        have c' : ¬ n = l[i] := fun e => c e.symm
        simpa [c'] using this)
    () trivial
  unfold laws_contains.f
  exact key

/-- The cursor over the bytes of a draw stands within them. -/
def curOk (b : List Int) (i : Int) : Prop := 0 ≤ i ∧ i ≤ (b.length : Int) ∧ b.length ≤ 1048576
theorem and255 (x : Int) : 0 ≤ Go.bits .and .i64 x 255 ∧ Go.bits .and .i64 x 255 ≤ 255 := by
  have h : (BitVec.ofInt 64 x &&& BitVec.ofInt 64 255).toNat ≤ 255 := by
    rw [BitVec.toNat_and]
    exact Nat.and_le_right
  have e : Go.bits .and .i64 x 255 = IntKind.i64.wrap ((BitVec.ofInt 64 x &&& BitVec.ofInt 64 255).toNat : Int) := rfl
  rw [e, IntKind.wrap_i64]
  omega
theorem l1New_ev {l : List Int} (hl : l.length ≤ 1048576) : ∃ h, Ev (fun k => spec_l1New.f k l) (l, 0, h) := by
  have key : ∀ (d : Nat) (i : Nat) (h : Int), (l.length : Int) - i ≤ d → ∃ r, Ev (fun k => spec_l1New.l0 k l h (i : Int)) (l, 0, r) := by
    intro d
    induction d with
    | zero =>
      intro i h hd
      refine ⟨h, Ev.step (f := fun _ => some (l, 0, h)) (fun k => ?_) (Ev.now _)⟩
      simp only [spec_l1New.l0]
      rw [if_neg (by omega)]
    | succ d ih =>
      intro i h hd
      by_cases c : (i : Int) < (l.length : Int)
      · by_cases c2 : (i : Int) < 4000
        · obtain ⟨r, hr⟩ := ih (i + 1) (Go.bits .and .i64 (wrap64 ((wrap64 ((wrap64 (h * 137)) + (wrap64 (rd l (i : Int))))) + 11)) 1073741823) (by omega)
          refine ⟨r, Ev.step (fun k => ?_) hr⟩
          simp only [spec_l1New.l0]
          rw [if_pos c, if_pos c2, if_pos (by omega), wrapSucc (by omega)]
        · refine ⟨h, Ev.step (f := fun _ => some (l, 0, h)) (fun k => ?_) (Ev.now _)⟩
          simp only [spec_l1New.l0]
          rw [if_pos c, if_neg c2]
      · refine ⟨h, Ev.step (f := fun _ => some (l, 0, h)) (fun k => ?_) (Ev.now _)⟩
        simp only [spec_l1New.l0]
        rw [if_neg c]
  obtain ⟨r, hr⟩ := key l.length 0 (wrap64 (193017 + (l.length : Int))) (by omega)
  refine ⟨r, ?_⟩
  unfold spec_l1New.f
  exact hr
theorem l1Byte_some {b : List Int} {i : Int} (h : Int) (hc : curOk b i) : ∃ x i' h', spec_l1Byte.f b i h = some (x, i', h') ∧ (0 ≤ x ∧ x ≤ 255) ∧ curOk b i' := by
  unfold curOk at hc
  unfold spec_l1Byte.f
  by_cases c : i < (b.length : Int)
  · rw [if_pos c, if_pos hc.1]
    refine ⟨_, _, _, rfl, and255 _, ?_⟩
    rw [wrapId (n := i + 1) (by omega) (by omega)]
    unfold curOk
    omega
  · rw [if_neg c]
    exact ⟨_, _, _, rfl, and255 _, hc⟩
theorem l1Below_some {b : List Int} {i : Int} (h : Int) {n : Int} (hn : 1 ≤ n ∧ n ≤ 256) (hc : curOk b i) : ∃ x i' h', spec_l1Below.f b i h n = some (x, i', h') ∧ (0 ≤ x ∧ x < n) ∧ curOk b i' := by
  unfold spec_l1Below.f
  obtain ⟨x, i', h', e, hx, hc'⟩ := l1Byte_some h hc
  rw [if_neg (by omega), if_pos hn.2, e]
  simp only [Option.bind_some]
  rw [if_neg (by omega), Int.tmod_eq_emod_of_nonneg hx.1]
  exact ⟨_, _, _, rfl, ⟨Int.emod_nonneg _ (by omega), Int.emod_lt_of_pos _ (by omega)⟩, hc'⟩
theorem l1Below_zero (b : List Int) (i h : Int) {n : Int} (hn : n ≤ 0) : spec_l1Below.f b i h n = some (0, i, h) := by
  unfold spec_l1Below.f
  rw [if_pos hn]

theorem l1Int_some {b : List Int} {i : Int} (h : Int) {l : List Int} (hl : 1 ≤ l.length ∧ l.length ≤ 256) (hc : curOk b i) : ∃ x i' h', spec_l1Int.f b i h l = some (x, i', h') ∧ x ∈ l ∧ curOk b i' := by
  unfold spec_l1Int.f
  obtain ⟨x, i', h', e, hx, hc'⟩ := l1Below_some h (n := (l.length : Int)) (by omega) hc
  rw [e]
  simp only [Option.bind_some]
  rw [if_pos hx.1, if_pos hx.2]
  refine ⟨_, _, _, rfl, ?_, hc'⟩
  unfold rd
  rw [getD_lt (by omega)]
  exact List.getElem_mem _

theorem l1Once_some {b : List Int} {i : Int} (h : Int) {n : Int} (hn : 1 ≤ n ∧ n ≤ 256) (hc : curOk b i) : ∃ q i' h', spec_l1Once.f b i h n = some (q, i', h') ∧ curOk b i' := by
  unfold spec_l1Once.f
  obtain ⟨x, i', h', e, hx, hc'⟩ := l1Below_some h hn hc
  rw [e]
  exact ⟨_, _, _, rfl, hc'⟩

theorem l7Draw_ev {b : List Int} : ∀ (d : Nat) (x : List S71) (n i h : Int), curOk b i → x.length ≤ 4 → 1 ≤ n → (x.length : Int) + 1 = n → 5 - n ≤ d → ∃ r i' h', Ev (fun k => spec_l7Draw.l0 k x n b i h) (r, i', h') ∧ curOk b i' ∧ x.length ≤ r.length ∧ r.length ≤ 4 := by
  intro d
  induction d with
  | zero =>
    intro x n i h hc hx hn hxn hd
    obtain ⟨u, i1, h1, e1, b1, c1⟩ := l1Below_some h (n := 4) (by omega) hc
    refine ⟨x, i1, h1, Ev.step (f := fun _ => some (x, i1, h1)) (fun k => ?_) (Ev.now _), c1, Nat.le_refl _, hx⟩
    simp only [spec_l7Draw.l0, e1, Option.bind_some]
    rw [wrapId (n := 1 + u) (by omega) (by omega), if_neg (by omega)]
  | succ d ih =>
    intro x n i h hc hx hn hxn hd
    obtain ⟨u, i1, h1, e1, b1, c1⟩ := l1Below_some h (n := 4) (by omega) hc
    by_cases q : n ≤ 1 + u
    · obtain ⟨v, i2, h2, e2, b2, c2⟩ := l1Below_some h1 (n := 20) (by omega) c1
      obtain ⟨w, i3, h3, e3, b3, c3⟩ := l1Below_some h2 (n := 3) (by omega) c2
      obtain ⟨y, i4, h4, e4, c4⟩ := l1Once_some h3 (n := 8) (by omega) c3
      obtain ⟨r, i5, h5, e5, c5, g0, g1⟩ := ih (x ++ [(⟨wrap64 (2 * n), wrap64 (5 + v), wrap64 (1 + w), y⟩ : S71)]) (n + 1) i4 h4 c4 (by simp; omega) (by omega) (by simp; omega) (by omega)
      refine ⟨r, i5, h5, Ev.step (fun k => ?_) e5, c5, by simp at g0; omega, g1⟩
      simp only [spec_l7Draw.l0, e1, e2, e3, e4, Option.bind_some]
      rw [wrapId (n := 1 + u) (by omega) (by omega), if_pos q, if_pos (by omega), wrapId (n := n + 1) (by omega) (by omega)]
    · refine ⟨x, i1, h1, Ev.step (f := fun _ => some (x, i1, h1)) (fun k => ?_) (Ev.now _), c1, Nat.le_refl _, hx⟩
      simp only [spec_l7Draw.l0, e1, Option.bind_some]
      rw [wrapId (n := 1 + u) (by omega) (by omega), if_neg q]
theorem l7Draw_first {b : List Int} {i : Int} (h : Int) (hc : curOk b i) : ∃ r i' h', Ev (fun k => spec_l7Draw.f k b i h) (r, i', h') ∧ curOk b i' ∧ 1 ≤ r.length ∧ r.length ≤ 4 := by
  obtain ⟨u, i1, h1, e1, b1, c1⟩ := l1Below_some h (n := 4) (by omega) hc
  obtain ⟨v, i2, h2, e2, b2, c2⟩ := l1Below_some h1 (n := 20) (by omega) c1
  obtain ⟨w, i3, h3, e3, b3, c3⟩ := l1Below_some h2 (n := 3) (by omega) c2
  obtain ⟨y, i4, h4, e4, c4⟩ := l1Once_some h3 (n := 8) (by omega) c3
  obtain ⟨r, i5, h5, e5, c5, g0, g1⟩ := l7Draw_ev 5 ([] ++ [(⟨wrap64 (2 * 1), wrap64 (5 + v), wrap64 (1 + w), y⟩ : S71)]) (1 + 1) i4 h4 c4 (by simp) (by omega) (by simp) (by omega)
  refine ⟨r, i5, h5, ?_, c5, by simp at g0; omega, g1⟩
  unfold spec_l7Draw.f
  refine Ev.step (fun k => ?_) e5
  simp only [spec_l7Draw.l0, e1, e2, e3, e4, Option.bind_some]
  rw [wrapId (n := 1 + u) (by omega) (by omega), if_pos (by omega), if_pos (by simp), wrapId (n := (1 : Int) + 1) (by omega) (by omega)]
theorem l7Any_ev {b : List Int} {i : Int} (h : Int) (hc : curOk b i) : ∃ r i' h', Ev (fun k => spec_l7Any.f k b i h) (r, i', h') ∧ curOk b i' ∧ r.length ≤ 4 := by
  unfold spec_l7Any.f
  obtain ⟨r, i1, h1, e1, c1, g0, g1⟩ := l7Draw_first h hc
  obtain ⟨u, i2, h2, e2, b2, c2⟩ := l1Below_some h1 (n := (r.length : Int)) (by omega) c1
  obtain ⟨v, i3, h3, e3, b3, c3⟩ := l1Below_some h2 (n := 12) (by omega) c2
  have fin : ∀ {q : List S71} {i' h' : Int} {f : Nat → List S71 × Int × Int → Option (List S71 × Int × Int)}, Ev (fun k => f k (r, i1, h1)) (q, i', h') → Ev (fun k => (spec_l7Draw.f k b i h).bind (f k)) (q, i', h') := fun z => Ev.bind e1 z
  by_cases q0 : v = 0
  · obtain ⟨w, i4, h4, e4, _, c4⟩ := l1Int_some h3 (l := [0, 2, 99, 100]) (by decide) c3
    refine ⟨r.set u.toNat ⟨w, (rd_T71 r u).f1, (rd_T71 r u).f2, (rd_T71 r u).f3⟩, i4, h4, fin ?_, c4, by simpa using g1⟩
    simp only [e2, e3, Option.bind_some, if_pos q0, e4, if_pos b2.1, if_pos b2.2]
    exact Ev.now _
  · by_cases q1 : v = 1
    · obtain ⟨w, i4, h4, e4, _, c4⟩ := l1Int_some h3 (l := [-1, 100, 101]) (by decide) c3
      refine ⟨r.set u.toNat ⟨(rd_T71 r u).f0, w, (rd_T71 r u).f2, (rd_T71 r u).f3⟩, i4, h4, fin ?_, c4, by simpa using g1⟩
      simp only [e2, e3, Option.bind_some, if_neg q0, if_pos q1, e4, if_pos b2.1, if_pos b2.2]
      exact Ev.now _
    · by_cases q2 : v = 2
      · obtain ⟨w, i4, h4, e4, _, c4⟩ := l1Int_some h3 (l := [0, 10, 11]) (by decide) c3
        refine ⟨r.set u.toNat ⟨(rd_T71 r u).f0, (rd_T71 r u).f1, w, (rd_T71 r u).f3⟩, i4, h4, fin ?_, c4, by simpa using g1⟩
        simp only [e2, e3, Option.bind_some, if_neg q0, if_neg q1, if_pos q2, e4, if_pos b2.1, if_pos b2.2]
        exact Ev.now _
      · by_cases q3 : v = 3
        · refine ⟨[], i3, h3, fin ?_, c3, by simp⟩
          simp only [e2, e3, Option.bind_some, if_neg q0, if_neg q1, if_neg q2, if_pos q3]
          exact Ev.now _
        · refine ⟨r, i3, h3, fin ?_, c3, g1⟩
          simp only [e2, e3, Option.bind_some, if_neg q0, if_neg q1, if_neg q2, if_neg q3]
          exact Ev.now _

theorem big_eq (l : List Int) : laws_big.f l = some (decide ((l.length : Int) > 1048576)) := rfl
theorem curStart {l : List Int} (hl : l.length ≤ 1048576) : curOk l 0 := by unfold curOk; omega

theorem mem_healthy {n : Int} {l : List S71} : n ∈ healthy l ↔ ∃ m ∈ l, m.f3 = false ∧ m.f0 = n := by
  unfold healthy
  simp only [List.mem_map, List.mem_filter, Bool.not_eq_true']
  constructor
  · rintro ⟨m, ⟨h0, h1⟩, h2⟩
    exact ⟨m, h0, h1, h2⟩
  · rintro ⟨m, h0, h1, h2⟩
    exact ⟨m, ⟨h0, h1⟩, h2⟩
theorem Strongest_ev {l : List S71} (hl : l.length ≤ 100000000) : ∃ s, Ev (fun k => impl_Strongest.f k l) s ∧ (s = 0 ∨ s ∈ healthy l) ∧ (areCrew l = true → (s = 0 ↔ (healthy l).length = 0)) := by
  have key := evScanP l (fun k (b : Int) i => impl_Strongest.l0 k l b l (l.length : Int) i) (fun s => (s = 0 ∨ s ∈ healthy l) ∧ (areCrew l = true → (s = 0 ↔ (healthy l).length = 0)))
    (fun b i => (b = -1 ∧ ∀ j (h : j < l.length), j < i → l[j].f3 = true) ∨ ∃ (j : Nat) (h : j < l.length), b = (j : Int) ∧ l[j].f3 = false) (fun b hb => by
      rcases hb with ⟨rfl, hb⟩ | ⟨j, hj, rfl, hb⟩
      · have e : healthy l = [] := by
          rw [List.eq_nil_iff_forall_not_mem]
          intro n hn
          obtain ⟨m, h0, h1, _⟩ := mem_healthy.1 hn
          obtain ⟨j, hj, rfl⟩ := List.getElem_of_mem h0
          rw [hb j hj hj] at h1
          cases h1
        refine Evp.of (r := 0) (Ev.step (f := fun _ => some 0) (fun k => ?_) (Ev.now _)) ⟨.inl rfl, fun _ => by simp [e]⟩
        simp only [impl_Strongest.l0]
        rw [if_neg (by omega), if_pos (by omega)]
      · have m : l[j].f0 ∈ healthy l := mem_healthy.2 ⟨l[j], List.getElem_mem hj, hb, rfl⟩
        refine Evp.of (r := l[j].f0) (Ev.step (f := fun _ => some l[j].f0) (fun k => ?_) (Ev.now _)) ⟨.inr m, fun c => ?_⟩
        · simp only [impl_Strongest.l0]
          rw [if_neg (by omega), if_neg (by omega), if_pos (by omega), if_pos (by omega), rdM hj]
        · have p := (areCrew_ok c l[j] (List.getElem_mem hj)).1
          have q := List.length_pos_of_mem m
          constructor
          · intro x; omega
          · intro x; omega) (fun b i h hb ih => by
      have st : ∀ k, impl_Strongest.l0 (k + 1) l b l (l.length : Int) (i : Int) = if l[i].f3 = true then impl_Strongest.l0 k l b l (l.length : Int) ((i + 1 : Nat) : Int) else (if b < 0 then impl_Strongest.l0 k l (i : Int) l (l.length : Int) ((i + 1 : Nat) : Int) else (if 0 ≤ b then (if b < (l.length : Int) then (if l[i].f1 > (rd_T71 l b).f1 then impl_Strongest.l0 k l (i : Int) l (l.length : Int) ((i + 1 : Nat) : Int) else impl_Strongest.l0 k l b l (l.length : Int) ((i + 1 : Nat) : Int)) else none) else none)) := by
        intro k
        simp only [impl_Strongest.l0]
        rw [if_pos (by omega), if_pos (by omega), if_pos (by omega), rdM h, wrapSucc (by omega)]
      refine Evp.step st ?_
      by_cases q : l[i].f3 = true
      · refine Evp.pos q (ih b ?_)
        rcases hb with ⟨rfl, hb⟩ | hb
        · refine .inl ⟨rfl, fun j hj hji => ?_⟩
          by_cases e : j = i
          · subst e; exact q
          · exact hb j hj (by omega)
        · exact .inr hb
      · have me : (fun (b : Int) (i : Nat) => (b = -1 ∧ ∀ j (h : j < l.length), j < i → l[j].f3 = true) ∨ ∃ (j : Nat) (h : j < l.length), b = (j : Int) ∧ l[j].f3 = false) (i : Int) (i + 1) := .inr ⟨i, h, rfl, by simpa using q⟩
        refine Evp.neg q ?_
        rcases hb with ⟨rfl, hb⟩ | ⟨j, hj, rfl, hb⟩
        · exact Evp.pos (by omega) (ih _ me)
        · refine Evp.neg (by omega) (Evp.pos (by omega) (Evp.pos (by omega) (Evp.ite (fun _ => ih _ me) (fun _ => ih _ (.inr ⟨j, hj, rfl, hb⟩)))))) (-1) (.inl ⟨rfl, fun j _ h => by omega⟩)
  obtain ⟨s, hs, p⟩ := key
  exact ⟨s, by unfold impl_Strongest.f; exact hs, p⟩
theorem crewFrom_set {n : Int} {b : Bool} : ∀ {l : List S71} {p : Int}, crewFrom p (setFirst n b l) = crewFrom p l
  | [], _ => rfl
  | m :: t, p => by
    simp only [setFirst]
    split
    · rfl
    · simp only [crewFrom, crewFrom_set]
theorem areCrew_set {n : Int} {b : Bool} {l : List S71} : areCrew (setFirst n b l) = areCrew l := by
  unfold areCrew
  rw [crewFrom_set, setFirst_length]
theorem needSum_set {n : Int} {b : Bool} : ∀ {l : List S71}, needSum (setFirst n b l) = needSum l
  | [] => rfl
  | m :: t => by
    simp only [setFirst]
    split
    · rfl
    · simp only [needSum, needSum_set]
theorem capSum_set {n : Int} {b : Bool} : ∀ {l : List S71}, (∀ m ∈ l, 0 ≤ m.f1) → (b = true → capSum (setFirst n b l) ≤ capSum l) ∧ (b = false → capSum l ≤ capSum (setFirst n b l))
  | [], _ => by simp [setFirst]
  | m :: t, h => by
    have h0 := h m List.mem_cons_self
    have ih := capSum_set (n := n) (b := b) (l := t) (fun x hx => h x (List.mem_cons_of_mem _ hx))
    simp only [setFirst]
    by_cases c : m.f0 = n
    · rw [if_pos c]
      have e : capSum (ill b m :: t) = (if b = true then 0 else m.f1) + capSum t := rfl
      rw [e]
      simp only [capSum]
      cases b with
      | false =>
        refine ⟨fun x => (by cases x), fun _ => ?_⟩
        simp only [Bool.false_eq_true, if_false]
        split <;> omega
      | true =>
        refine ⟨fun _ => ?_, fun x => (by cases x)⟩
        simp only [if_true]
        split <;> omega
    · rw [if_neg c]
      simp only [capSum]
      constructor
      · intro e
        have := ih.1 e
        omega
      · intro e
        have := ih.2 e
        omega
/-- Whoever has been set ill, or well, is no longer, or is, among those who are well. -/
theorem healthy_set {n : Int} {b : Bool} : ∀ {l : List S71} {p : Int}, crewFrom p l = true → anyId n l = true → (n ∈ healthy (setFirst n b l) ↔ b = false)
  | [], _, _, a => by simp [anyId] at a
  | m :: t, p, e, a => by
    simp only [crewFrom, Bool.and_eq_true, decide_eq_true_eq] at e
    have far : ∀ {l : List S71} {p : Int}, crewFrom p l = true → n ≤ p → ∀ x ∈ l, x.f0 ≠ n := by
      intro l
      induction l with
      | nil => intro p _ _ x hx; cases hx
      | cons y s ih =>
        intro p e h x hx
        simp only [crewFrom, Bool.and_eq_true, decide_eq_true_eq] at e
        rcases List.mem_cons.1 hx with rfl | hx
        · omega
        · exact ih e.2.2 (by omega) x hx
    simp only [setFirst]
    by_cases c : m.f0 = n
    · rw [if_pos c]
      have no := far e.2.2 (by omega)
      constructor
      · intro h
        obtain ⟨x, hx, h1, h2⟩ := mem_healthy.1 h
        rcases List.mem_cons.1 hx with rfl | hx
        · exact h1
        · exact absurd h2 (no x hx)
      · intro h
        exact mem_healthy.2 ⟨ill b m, List.mem_cons_self, h, c⟩
    · rw [if_neg c]
      have a' : anyId n t = true := by
        simp only [anyId, Bool.or_eq_true, decide_eq_true_eq] at a
        rcases a with a | a
        · exact absurd a c
        · exact a
      rw [← healthy_set (b := b) e.2.2 a']
      constructor
      · intro h
        obtain ⟨x, hx, h1, h2⟩ := mem_healthy.1 h
        rcases List.mem_cons.1 hx with rfl | hx
        · exact absurd h2 c
        · exact mem_healthy.2 ⟨x, hx, h1, h2⟩
      · intro h
        obtain ⟨x, hx, h1, h2⟩ := mem_healthy.1 h
        exact mem_healthy.2 ⟨x, List.mem_cons_of_mem _ hx, h1, h2⟩
theorem DrawCrew_ev {l : List Int} (hl : l.length ≤ 1048576) : ∃ r, Ev (fun k => spec_DrawAreCrew.f k l) r ∧ r.length ≤ 4 := by
  unfold spec_DrawAreCrew.f
  obtain ⟨s, e0⟩ := l1New_ev hl
  obtain ⟨r, i1, h1, e1, c1, g1⟩ := l7Any_ev s (curStart hl)
  exact ⟨r, Ev.bind (a := (l, 0, s)) e0 (Ev.bind (a := (r, i1, h1)) e1 (Ev.now _)), g1⟩
theorem DrawSetIll_ev {l : List Int} (hl : l.length ≤ 1048576) : ∃ r n b, Ev (fun k => spec_DrawSetIll.f k l) (r, n, b) ∧ r.length ≤ 4 := by
  unfold spec_DrawSetIll.f
  obtain ⟨s, e0⟩ := l1New_ev hl
  obtain ⟨r, i1, h1, e1, c1, g1⟩ := l7Any_ev s (curStart hl)
  obtain ⟨n, i2, h2, e2, b2, c2⟩ := l1Below_some h1 (n := 11) (by omega) c1
  obtain ⟨b, i3, h3, e3, c3⟩ := l1Once_some h2 (n := 2) (by omega) c2
  refine ⟨r, n, b, Ev.bind (a := (l, 0, s)) e0 (Ev.bind (a := (r, i1, h1)) e1 ?_), g1⟩
  simp only [e2, e3, Option.bind_some]
  exact Ev.now _
/-- The end: what the crew carries and eats. -/
def tail (k : Nat) (t : List S71) : Option Bool := (impl_CapOf.f k t).bind fun c => (if c ≥ 0 then ((impl_NeedOf.f k t).bind fun n => ((impl_AreCrew.f k t).bind fun a => (some ((decide (n > 0)) == a)))) else (some false))
theorem tail_ev {t : List S71} (ht : t.length ≤ 100000000) : Ev (fun k => tail k t) true := by
  unfold tail
  refine Ev.bind (impl_CapOf_ev ht) (evPos (capOf_le t).1 (Ev.bind (impl_NeedOf_ev ht) (Ev.bind (impl_AreCrew_ev ht) ?_)))
  have e : (decide (needOf t > 0) == areCrew t) = true := by
    by_cases c : areCrew t = true
    · have := needOf_crew c
      rw [c, decide_eq_true (by omega)]
      rfl
    · rw [needOf_none c]
      simp only [Bool.not_eq_true] at c
      rw [c]
      rfl
  rw [e]
  exact Ev.now _
theorem j0_ev {l : List Int} (hl : l.length ≤ 1048576) : Ev (fun k => laws_FnCrew.j0 k l false) true := by
  refine Ev.step (fun k => rfl) ?_
  simp only [laws_FnCrew.j0, Bool.false_eq_true, if_false]
  obtain ⟨a, ea, ga⟩ := DrawCrew_ev hl
  have es : Ev (fun k => spec_DrawStrongest.f k l) a := by unfold spec_DrawStrongest.f; exact Ev.bind ea (Ev.now _)
  have ec : Ev (fun k => spec_DrawCapOf.f k l) a := by unfold spec_DrawCapOf.f; exact Ev.bind ea (Ev.now _)
  have h8 : a.length ≤ 100000000 := by omega
  obtain ⟨s, hs, p0, p1⟩ := Strongest_ev h8
  refine Ev.bind es (Ev.bind hs (Ev.bind ec ?_))
  have hh : (healthy a).length ≤ 100000000 := Nat.le_trans (healthy_len a) h8
  have rest : Ev (fun k => (impl_AreCrew.f k a).bind fun t => if t = true then ((impl_Healthy.f k a).bind fun u => (if ((s == 0) == ((u.length : Int) == 0)) = true then tail k a else some false)) else tail k a) true := by
    refine Ev.bind (impl_AreCrew_ev h8) ?_
    by_cases c : areCrew a = true
    · refine evPos c (Ev.bind (impl_Healthy_ev h8) (evPos ?_ (tail_ev h8)))
      have q := p1 c
      by_cases z : s = 0
      · have := q.1 z
        simp [z, this]
      · have : ¬ (healthy a).length = 0 := fun x => z (q.2 x)
        have z' : ¬ ((healthy a).length : Int) = 0 := by omega
        rw [beq_eq_false_iff_ne.2 z, beq_eq_false_iff_ne.2 z']
        rfl
    · exact evNeg c (tail_ev h8)
  by_cases z : s = 0
  · exact evPos z rest
  · refine evNeg z (Ev.bind (impl_Healthy_ev h8) (Ev.bind (contains_ev s hh) (evPos ?_ rest)))
    rw [decide_eq_true_eq]
    rcases p0 with x | x
    · exact absurd x z
    · exact x
def FnCrew.Claim : Prop := ∀ (l0 : List (Int)), l0.length ≤ maxLen → (∀ x ∈ l0, (Lit.int .u8 x).wf = true) → ∃ k, laws_FnCrew.f k l0 = some true
theorem FnCrew : FnCrew.Claim := by
  intro l _ _
  apply Ev.rounds
  unfold laws_FnCrew.f
  simp only [big_eq, Option.bind_some]
  by_cases hb : (l.length : Int) > 1048576
  · exact evPos (decide_eq_true hb) (Ev.now _)
  refine evNeg (by rw [decide_eq_true_eq]; exact hb) ?_
  have hl : l.length ≤ 1048576 := by omega
  obtain ⟨r, n, b, e, g⟩ := DrawSetIll_ev hl
  have hr : r.length ≤ 100000000 := by omega
  have len := setIll_length r n b
  have hx : (setIll r n b).1.length ≤ 100000000 := by rw [len]; exact hr
  have same : (((setIll r n b).1.length : Int) != (r.length : Int)) = false := by rw [len]; simp
  refine Ev.bind e (Ev.bind (impl_SetIll_ev n b hr) ?_)
  by_cases ok : (setIll r n b).2 = true
  · refine evPos ok ?_
    have c : areCrew r = true := by
      by_cases c : areCrew r = true
      · exact c
      · unfold setIll at ok
        rw [if_neg c] at ok
        cases ok
    have ex : setIll r n b = (setFirst n b r, anyId n r) := by unfold setIll; rw [if_pos c]
    rw [ex] at ok hx same
    rw [ex]
    have cx : areCrew (setFirst n b r) = true := by rw [areCrew_set]; exact c
    have c' := c
    unfold areCrew at c'
    simp only [Bool.and_eq_true] at c'
    have hn : needOf (setFirst n b r) = needOf r := by unfold needOf; rw [cx, c, needSum_set]
    have hh : (healthy (setFirst n b r)).length ≤ 100000000 := Nat.le_trans (healthy_len _) hx
    have hm := healthy_set (b := b) c'.1 ok
    have hcap := capSum_set (n := n) (b := b) (l := r) (fun m hm => (areCrew_ok c m hm).2.1.1)
    have k1 : capOf (setFirst n b r) = capSum (setFirst n b r) := by unfold capOf; rw [if_pos cx]
    have k2 : capOf r = capSum r := by unfold capOf; rw [if_pos c]
    refine Ev.bind (impl_NeedOf_ev hx) (Ev.bind (impl_NeedOf_ev hr) (evPos hn (Ev.bind (impl_Healthy_ev hx) (Ev.bind (contains_ev n hh) ?_))))
    cases b with
    | true =>
      have e0 : decide (n ∈ healthy (setFirst n true r)) = false := by
        rw [decide_eq_false_iff_not]
        intro x
        cases hm.1 x
      refine evNeg (by simp only [e0]; decide) (evPos rfl (Ev.bind (impl_CapOf_ev hx) (Ev.bind (impl_CapOf_ev hr) ?_)))
      have := hcap.1 rfl
      refine evNeg (by dsimp only; omega) (Ev.bind (impl_AreCrew_ev hx) (evPos cx ?_))
      simp only [same]
      exact j0_ev hl
    | false =>
      have e0 : decide (n ∈ healthy (setFirst n false r)) = true := by
        rw [decide_eq_true_eq]
        exact hm.2 rfl
      refine evNeg (by simp only [e0]; decide) (evNeg (by simp) (Ev.bind (impl_CapOf_ev hx) (Ev.bind (impl_CapOf_ev hr) ?_)))
      have := hcap.2 rfl
      refine evNeg (by dsimp only; omega) (Ev.bind (impl_AreCrew_ev hx) (evPos cx ?_))
      simp only [same]
      exact j0_ev hl
  · refine evNeg ok ?_
    simp only [same]
    exact j0_ev hl
end Go.Proofs.Ytkdclkbgejbgjae.Pure
