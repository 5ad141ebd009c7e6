/- For every list of members, the program's RopeTeams and the reference's give the same teams, new memory that nothing else changes: the law's Go function answers true. No condition beyond the kinds of the numbers. -/
import Derived.Test.YtdgpnmbmnnmdcaaPFnExactRopeTeamsx9
import Derived.Test.YtdgpnmbmnnmdcaaAid
namespace Go.Proofs.Ytdgpnmbmnnmdcaa.Pure
open Go.RowKit Go.Proofs.Ytdgpnmbmnnmdcaa.PFnExactRopeTeams Go.Proofs.Ytdgpnmbmnnmdcaa.Aid Go.Proofs.YtdgpnmbmnnmdcaaW.PrintWords Go.Proofs.YtdgpnmbmnnmdcaaW.PrintLast Go.Proofs.YtdgpnmbmnnmdcaaW.PrintMore
set_option linter.unusedVariables false
set_option linter.unusedSimpArgs false
theorem szMemberS_ok {l : List S70} {q : Int} (hl : l.length ≤ maxLen) (h0 : 0 ≤ q) (h1 : q ≤ 1048576) : laws_szMemberS.f l q = some (if (l.length : Int) ≤ q then q - (l.length : Int) else -1) := by
  unfold laws_szMemberS.f
  unfold maxLen at hl
  rw [wrapId (n := q - (l.length : Int)) (by omega) (by omega)]
  by_cases c : (l.length : Int) ≤ q
  · rw [if_neg (by omega), if_pos c]
  · rw [if_pos (by omega), if_neg c]

theorem rdM {xs : List S68} {i : Nat} (h : i < xs.length) : rd_T68 xs (i : Int) = xs[i] := by
  unfold rd_T68
  rw [Int.toNat_natCast, getD_lt h]

def mem (x : S70) : S68 := ⟨x.f0, x.f1, x.f2, x.f3⟩
theorem rdLM {xs : List S70} {i : Nat} (h : i < xs.length) : rd_T70 xs (i : Int) = xs[i] := by
  unfold rd_T70
  rw [Int.toNat_natCast, getD_lt h]
theorem toMemberS_ev {l : List S70} (hl : l.length ≤ 1048576) : Ev (fun k => laws_toMemberS.f k l) (l.map mem) := by
  have key := evScan l (fun k (acc : List S68) i => laws_toMemberS.l0 k l acc i) (fun _ _ _ => l.map mem) (fun acc i => acc.length = (l.map mem).length ∧ acc.take i = (l.map mem).take i) (fun acc ⟨h0, h1⟩ => by
      refine Ev.step (f := fun _ => some acc) (fun k => ?_) ?_
      · simp only [laws_toMemberS.l0]
        rw [if_neg (by omega)]
      · rw [take_whole h0 (by rw [List.length_map]; exact h1)]
        exact Ev.now _) (fun acc i t h ht ⟨h0, h1⟩ ih => by
      have hm : i < (l.map mem).length := by rw [List.length_map]; exact h
      have hs := take_set_succ hm h0 h1
      rw [List.length_map] at h0
      refine Ev.step (fun k => ?_) (ih (acc.set i (l.map mem)[i]) ⟨by simpa using h0, hs⟩)
      simp only [laws_toMemberS.l0, laws_toMember.f, Option.bind_some]
      rw [if_pos (by omega), if_pos (by omega), if_pos (by omega), rdLM h, wrapSucc (by omega), toNatCast, List.getElem_map]
      rfl)
    (List.replicate l.length z68) ⟨by simp, by simp⟩
  refine Ev.congr (fun k => ?_) key
  simp only [laws_toMemberS.f]
  rw [if_pos (by omega), if_pos (by omega), toNatCast]

theorem eqMemberS_same {a : List S68} (ha : a.length ≤ 1048576) : Ev (fun k => laws_eqMemberS.f k a a) true := by
  have key := evScan a (fun k (_ : Unit) i => laws_eqMemberS.l0 k a a i) (fun _ _ _ => true) (fun _ _ => True) (fun _ _ => by
      refine Ev.step (f := fun _ => some true) (fun k => ?_) (Ev.now _)
      simp only [laws_eqMemberS.l0]
      rw [if_neg (by omega)]) (fun _ i t h _ _ ih => by
      refine Ev.step (fun k => ?_) (ih () trivial)
      simp only [laws_eqMemberS.l0, laws_eqMember.f, if_true, bne_self_eq_false, Bool.false_eq_true, if_false, Option.bind_some]
      rw [if_pos (by omega), if_pos (by omega), if_pos (by omega), wrapSucc (by omega)])
    () trivial
  refine Ev.congr (fun k => ?_) key
  simp only [laws_eqMemberS.f, if_true]

theorem eqIntS_ev {a b : List Int} (ha : a.length ≤ 1048576) : Ev (fun k => laws_eqIntS.f k a b) (decide (a = b)) := by
  by_cases e : a.length = b.length
  · have key := evScan a (fun k (_ : Unit) i => laws_eqIntS.l0 k a b i) (fun _ i t => decide (t = b.drop i)) (fun _ _ => True) (fun _ _ => by
        refine Ev.step (f := fun _ => some true) (fun k => ?_) ?_
        · simp only [laws_eqIntS.l0]
          rw [if_neg (by omega)]
        · rw [e, List.drop_length]
          exact Ev.now _) (fun _ i t h ht _ ih => by
        have hb : i < b.length := by omega
        have st : ∀ k, laws_eqIntS.l0 (k + 1) a b (i : Int) = if a[i] = b[i] then laws_eqIntS.l0 k a b ((i + 1 : Nat) : Int) else some false := by
          intro k
          simp only [laws_eqIntS.l0]
          rw [if_pos (by omega), if_pos (by omega), if_pos (by omega), rdIn h, rdIn hb, wrapSucc (by omega)]
        refine Ev.step st ?_
        rw [List.drop_eq_getElem_cons hb]
        by_cases c : a[i] = b[i]
        · refine evPos c ?_
          rw [show decide (a[i] :: t = b[i] :: b.drop (i + 1)) = decide (t = b.drop (i + 1)) by rw [decide_eq_decide, List.cons.injEq, and_iff_right c]]
          exact ih () trivial
        · refine evNeg c ?_
          rw [show decide (a[i] :: t = b[i] :: b.drop (i + 1)) = false by rw [decide_eq_false_iff_not, List.cons.injEq]; exact fun e => c e.1]
          exact Ev.now _)
      () trivial
    refine Ev.congr (fun k => ?_) key
    simp only [laws_eqIntS.f]
    rw [if_pos (by omega)]
  · have ne : ¬ a = b := fun h => e (by rw [h])
    refine Ev.congr (f := fun _ => some (decide (a = b))) (fun k => ?_) (Ev.now _)
    simp only [laws_eqIntS.f]
    rw [if_neg (by omega), decide_eq_false ne]
theorem eqIntS_same {a : List Int} (ha : a.length ≤ 1048576) : Ev (fun k => laws_eqIntS.f k a a) true := by
  have := eqIntS_ev (a := a) (b := a) ha
  rwa [decide_eq_true rfl] at this

theorem rdL {xs : List (List Int)} {i : Nat} (h : i < xs.length) : rd_L4 xs (i : Int) = xs[i] := by
  unfold rd_L4
  rw [Int.toNat_natCast, getD_lt h]

theorem eqIntSS_same {a : List (List Int)} (ha : a.length ≤ 1048576) (hr : ∀ x ∈ a, x.length ≤ 1048576) : Ev (fun k => laws_eqIntSS.f k a a) true := by
  have key := evScan a (fun k (_ : Unit) i => laws_eqIntSS.l0 k a a i) (fun _ _ _ => true) (fun _ _ => True) (fun _ _ => by
      refine Ev.step (f := fun _ => some true) (fun k => ?_) (Ev.now _)
      simp only [laws_eqIntSS.l0]
      rw [if_neg (by omega)]) (fun _ i t h _ _ ih => by
      refine Ev.step (f := fun k => (laws_eqIntS.f k a[i] a[i]).bind fun z => if z = true then laws_eqIntSS.l0 k a a ((i + 1 : Nat) : Int) else some false) (fun k => ?_) (Ev.bind (eqIntS_same (hr _ (List.getElem_mem h))) (evPos rfl (ih () trivial)))
      simp only [laws_eqIntSS.l0]
      rw [if_pos (by omega), if_pos (by omega), if_pos (by omega), rdL h, wrapSucc (by omega)])
    () trivial
  refine Ev.congr (fun k => ?_) key
  simp only [laws_eqIntSS.f, if_true]

def markM (q : Int) (i : Nat) : S68 := ⟨q + 4 * (i : Int), q + 4 * (i : Int) + 1, q + 4 * (i : Int) + 1 + 1, (Int.tmod (q + 4 * (i : Int) + 1 + 1 + 1) 3 == 0)⟩
def marksM (q : Int) (n : Nat) : List S68 := (List.range n).map (markM q)
theorem marksM_length (q : Int) (n : Nat) : (marksM q n).length = n := by simp [marksM]
theorem marksM_at (q : Int) (n i : Nat) (h : i < (marksM q n).length) : (marksM q n)[i] = markM q i := by simp [marksM]
theorem rdMset {xs : List S68} {i : Nat} (v : S68) (h : i < xs.length) : rd_T68 (xs.set i v) (i : Int) = v := by
  rw [rdM (by simpa using h), List.getElem_set_self]
theorem markMemberS_ev {l : List S68} {q : Int} (hl : l.length ≤ 2000000) (h0 : 0 ≤ q) (h1 : q ≤ 1000000000000) : Ev (fun k => laws_markMemberS.f k l q) (q + 4 * (l.length : Int), marksM q l.length) := by
  have key := evScan l (fun k (s : List S68 × Int) i => laws_markMemberS.l0 k s.1 s.2 i) (fun _ _ _ => (q + 4 * (l.length : Int), marksM q l.length)) (fun s i => s.1.length = l.length ∧ s.1.take i = (marksM q l.length).take i ∧ s.2 = q + 4 * (i : Int)) (fun s ⟨g0, g1, g2⟩ => by
      refine Ev.step (f := fun _ => some (s.2, s.1)) (fun k => ?_) ?_
      · simp only [laws_markMemberS.l0]
        rw [if_neg (by omega)]
      · have : s.1 = marksM q l.length := take_whole (by rw [marksM_length]; exact g0) (by rw [marksM_length]; exact g1)
        rw [this, g2]
        exact Ev.now _) (fun s i t h _ ⟨g0, g1, g2⟩ ih => by
      have hs : i < (marksM q l.length).length := by rw [marksM_length]; exact h
      have e := take_set_succ hs (by rw [marksM_length]; exact g0) g1
      rw [marksM_at] at e
      have g3 : i < s.1.length := by omega
      refine Ev.step (fun k => ?_) (ih (s.1.set i (markM q i), q + 4 * (i : Int) + 1 + 1 + 1 + 1) ⟨by simpa using g0, e, by simp only [Int.natCast_add]; omega⟩)
      simp only [laws_markMemberS.l0, Option.bind_some, toNatCast, rdMset _ g3, List.set_set, g2]
      rw [if_pos (by omega), if_pos (by omega), wrapSucc (by omega), wrapId (n := q + 4 * (i : Int) + 1) (by omega) (by omega), wrapId (n := q + 4 * (i : Int) + 1 + 1) (by omega) (by omega), wrapId (n := q + 4 * (i : Int) + 1 + 1 + 1) (by omega) (by omega), wrapId (n := q + 4 * (i : Int) + 1 + 1 + 1 + 1) (by omega) (by omega)]
      rfl)
    (l, q) ⟨rfl, by simp, by simp⟩
  unfold laws_markMemberS.f
  exact key

theorem markIntS_ev {l : List Int} {q : Int} (hl : l.length ≤ 1048576) (h0 : 0 ≤ q) (h1 : q ≤ 1000000000000) : Ev (fun k => laws_markIntS.f k l q) (q + (l.length : Int), seqFrom q l.length) := by
  have key := evScan l (fun k (s : List Int × Int) i => laws_markIntS.l0 k s.1 s.2 i) (fun _ _ _ => (q + (l.length : Int), seqFrom q l.length)) (fun s i => s.1.length = l.length ∧ s.1.take i = (seqFrom q l.length).take i ∧ s.2 = q + (i : Int)) (fun s ⟨g0, g1, g2⟩ => by
      refine Ev.step (f := fun _ => some (s.2, s.1)) (fun k => ?_) ?_
      · simp only [laws_markIntS.l0]
        rw [if_neg (by omega)]
      · have : s.1 = seqFrom q l.length := take_whole (by rw [seqFrom_length]; exact g0) (by rw [seqFrom_length]; exact g1)
        rw [this, g2]
        exact Ev.now _) (fun s i t h ht ⟨g0, g1, g2⟩ ih => by
      have hs : i < (seqFrom q l.length).length := by rw [seqFrom_length]; exact h
      have e := take_set_succ hs (by rw [seqFrom_length]; exact g0) g1
      rw [seqFrom_at] at e
      refine Ev.step (fun k => ?_) (ih (s.1.set i (q + (i : Int)), q + (i : Int) + 1) ⟨by simpa using g0, e, by simp only [Int.natCast_add]; omega⟩)
      simp only [laws_markIntS.l0]
      rw [if_pos (by omega), if_pos (by omega), g2, toNatCast, wrapSucc (by omega), wrapId (n := q + (i : Int) + 1) (by omega) (by omega)])
    (l, q) ⟨rfl, by simp, by simp⟩
  unfold laws_markIntS.f
  exact key

theorem heldIntS_ev {n : Nat} {q : Int} (hl : n ≤ 1048576) (h0 : 0 ≤ q) (h1 : q ≤ 1000000000000) : Ev (fun k => laws_heldIntS.f k (seqFrom q n) q) (q + (n : Int)) := by
  have key := evScan (seqFrom q n) (fun k (s : Int) i => laws_heldIntS.l0 k (seqFrom q n) s i) (fun _ _ _ => q + (n : Int)) (fun s i => s = q + (i : Int)) (fun s g => by
      refine Ev.step (f := fun _ => some s) (fun k => ?_) ?_
      · simp only [laws_heldIntS.l0]
        rw [if_neg (by omega)]
      · rw [g, seqFrom_length]
        exact Ev.now _) (fun s i t h ht g ih => by
      have hn : i < n := by rw [seqFrom_length] at h; exact h
      refine Ev.step (fun k => ?_) (ih (q + (i : Int) + 1) (by simp only [Int.natCast_add]; omega))
      simp only [laws_heldIntS.l0]
      rw [if_pos (by omega), if_pos (by omega), rdIn h, seqFrom_at, g, if_pos rfl, wrapSucc (by omega), wrapId (n := q + (i : Int) + 1) (by omega) (by omega)])
    q (by simp)
  unfold laws_heldIntS.f
  exact key


def sumLen : List (List Int) → Int
  | [] => 0
  | x :: t => (x.length : Int) + sumLen t
theorem sumLen_pos : ∀ l : List (List Int), 0 ≤ sumLen l
  | [] => Int.le_refl 0
  | x :: t => by
    have := sumLen_pos t
    simp only [sumLen]
    omega
/-- The rows' elements, counted through from q. -/
def marksSS : Int → List (List Int) → List (List Int)
  | _, [] => []
  | q, x :: t => seqFrom q x.length :: marksSS (q + (x.length : Int)) t
theorem marksSS_length : ∀ (l : List (List Int)) (q : Int), (marksSS q l).length = l.length
  | [], _ => rfl
  | x :: t, q => by simp only [marksSS, List.length_cons, marksSS_length t]
theorem markIntSS_from : ∀ (t pre : List (List Int)) (q : Int), pre.length + t.length ≤ 1048576 → (∀ x ∈ t, x.length ≤ 1048576) → 0 ≤ q → q + sumLen t ≤ 1000000000000 → Ev (fun k => laws_markIntSS.l0 k (pre ++ t) q (pre.length : Int)) (q + sumLen t, pre ++ marksSS q t)
  | [], pre, q, _, _, _, _ => by
    refine Ev.step (f := fun _ => some (q, pre)) (fun k => ?_) ?_
    · simp only [laws_markIntSS.l0, List.append_nil]
      rw [if_neg (by omega)]
    · simp only [sumLen, marksSS, List.append_nil, Int.add_zero]
      exact Ev.now _
  | x :: t, pre, q, hl, hr, h0, h1 => by
    simp only [sumLen] at h1
    have hp := sumLen_pos t
    simp only [List.length_cons] at hl
    have ih := markIntSS_from t (pre ++ [seqFrom q x.length]) (q + (x.length : Int)) (by simp only [List.length_append, List.length_singleton]; omega) (fun y hy => hr y (List.mem_cons_of_mem _ hy)) (by omega) (by omega)
    have st : ∀ k, laws_markIntSS.l0 (k + 1) (pre ++ x :: t) q (pre.length : Int) = (laws_markIntS.f k x q).bind fun bt => laws_markIntSS.l0 k (pre ++ bt.2 :: t) bt.1 ((pre.length + 1 : Nat) : Int) := by
      intro k
      simp only [laws_markIntSS.l0, toNatCast]
      rw [if_pos (by simp only [List.length_append, List.length_cons]; omega), if_pos (by omega), wrapSucc (by omega)]
      have e : (pre ++ x :: t).getD pre.length ([] : List Int) = x := by
        rw [List.getD_eq_getElem?_getD, List.getElem?_append_right (Nat.le_refl _), Nat.sub_self]
        rfl
      rw [e]
      congr 1
      funext bt
      rw [List.set_append_right _ _ (Nat.le_refl _), Nat.sub_self]
      rfl
    refine Ev.step st (Ev.bind (markIntS_ev (hr x List.mem_cons_self) h0 (by omega)) ?_)
    simp only [marksSS, sumLen]
    rw [List.append_assoc, List.append_assoc] at ih
    rw [← Int.add_assoc]
    simpa using ih
theorem markIntSS_ev {l : List (List Int)} {q : Int} (hl : l.length ≤ 1048576) (hr : ∀ x ∈ l, x.length ≤ 1048576) (h0 : 0 ≤ q) (h1 : q + sumLen l ≤ 1000000000000) : Ev (fun k => laws_markIntSS.f k l q) (q + sumLen l, marksSS q l) := by
  have := markIntSS_from l [] q (by simpa using hl) hr h0 h1
  unfold laws_markIntSS.f
  simpa using this
theorem heldIntSS_from : ∀ (t pre : List (List Int)) (q : Int), pre.length + t.length ≤ 1048576 → (∀ x ∈ t, x.length ≤ 1048576) → 0 ≤ q → q + sumLen t ≤ 1000000000000 → Ev (fun k => laws_heldIntSS.l0 k (pre ++ marksSS q t) q (pre.length : Int)) (q + sumLen t)
  | [], pre, q, _, _, _, _ => by
    refine Ev.step (f := fun _ => some q) (fun k => ?_) ?_
    · simp only [laws_heldIntSS.l0, marksSS, List.append_nil]
      rw [if_neg (by omega)]
    · simp only [sumLen, Int.add_zero]
      exact Ev.now _
  | x :: t, pre, q, hl, hr, h0, h1 => by
    simp only [sumLen] at h1
    have hp := sumLen_pos t
    simp only [List.length_cons] at hl
    have ih := heldIntSS_from t (pre ++ [seqFrom q x.length]) (q + (x.length : Int)) (by simp only [List.length_append, List.length_singleton]; omega) (fun y hy => hr y (List.mem_cons_of_mem _ hy)) (by omega) (by omega)
    have st : ∀ k, laws_heldIntSS.l0 (k + 1) (pre ++ marksSS q (x :: t)) q (pre.length : Int) = (laws_heldIntS.f k (seqFrom q x.length) q).bind fun z => if z < 0 then some (-1) else laws_heldIntSS.l0 k (pre ++ marksSS q (x :: t)) z ((pre.length + 1 : Nat) : Int) := by
      intro k
      have hlt : pre.length < (pre ++ marksSS q (x :: t)).length := by simp only [List.length_append, marksSS, List.length_cons]; omega
      have e : (pre ++ marksSS q (x :: t))[pre.length] = seqFrom q x.length := by
        rw [List.getElem_append_right (Nat.le_refl _)]
        simp [marksSS]
      simp only [laws_heldIntSS.l0]
      rw [if_pos (by omega), if_pos (by omega), rdL hlt, e, wrapSucc (by omega)]
    refine Ev.step st (Ev.bind (heldIntS_ev (hr x List.mem_cons_self) h0 (by omega)) (evNeg (by omega) ?_))
    simp only [marksSS, sumLen]
    rw [List.append_assoc] at ih
    rw [← Int.add_assoc]
    simpa using ih
theorem heldIntSS_ev {l : List (List Int)} {q : Int} (hl : l.length ≤ 1048576) (hr : ∀ x ∈ l, x.length ≤ 1048576) (h0 : 0 ≤ q) (h1 : q + sumLen l ≤ 1000000000000) : Ev (fun k => laws_heldIntSS.f k (marksSS q l) q) (q + sumLen l) := by
  have := heldIntSS_from l [] q (by simpa using hl) hr h0 h1
  unfold laws_heldIntSS.f
  simpa using this

theorem evAfter {α : Type} {g : Nat → Option α} {r : α} (n : Nat) (h : ∀ k, g (k + n) = some r) : Ev g r := ⟨n, fun k hk => by have := h (k - n); rwa [Nat.sub_add_cancel hk] at this⟩

def okM (m : S68) : Bool := decide ((1 ≤ m.f0 ∧ m.f0 ≤ 99) ∧ (0 ≤ m.f1 ∧ m.f1 ≤ 100) ∧ (1 ≤ m.f2 ∧ m.f2 ≤ 10))
/-- Members of a crew, behind one whose number is p. -/
def crewFrom : Int → List S68 → Bool
  | _, [] => true
  | p, m :: t => okM m && (decide (p < m.f0) && crewFrom m.f0 t)
def areCrew (l : List S68) : Bool := crewFrom 0 l && decide (1 ≤ l.length ∧ l.length ≤ 8)
def prevId (l : List S68) (i : Nat) : Int := if i = 0 then 0 else (l.getD (i - 1) z68).f0
theorem prevId_succ {l : List S68} {i : Nat} (h : i < l.length) : prevId l (i + 1) = l[i].f0 := by
  unfold prevId
  rw [if_neg (by omega), Nat.add_sub_cancel, getD_lt h]
theorem prevId_pos {l : List S68} {i : Nat} (hl : l.length ≤ 100000000) (h : i ≤ l.length) (h0 : 0 < i) : prevId l i = (rd_T68 l (wrap64 ((i : Int) - 1))).f0 := by
  rw [wrapId (n := (i : Int) - 1) (by omega) (by omega), show ((i : Int) - 1) = ((i - 1 : Nat) : Int) by omega, rdM (by omega)]
  unfold prevId
  rw [if_neg (by omega), getD_lt (by omega)]
theorem crewFrom_ok : ∀ {l : List S68} {p : Int}, crewFrom p l = true → ∀ m ∈ l, okM m = true
  | [], _, _, m, h => by cases h
  | x :: t, p, e, m, h => by
    simp only [crewFrom, Bool.and_eq_true] at e
    rcases List.mem_cons.1 h with rfl | h
    · exact e.1
    · exact crewFrom_ok e.2.2 m h
theorem areCrew_len {l : List S68} (e : areCrew l = true) : 1 ≤ l.length ∧ l.length ≤ 8 := by
  unfold areCrew at e
  simp only [Bool.and_eq_true, decide_eq_true_eq] at e
  exact e.2
theorem areCrew_ok {l : List S68} (e : areCrew l = true) : ∀ m ∈ l, (1 ≤ m.f0 ∧ m.f0 ≤ 99) ∧ (0 ≤ m.f1 ∧ m.f1 ≤ 100) ∧ (1 ≤ m.f2 ∧ m.f2 ≤ 10) := by
  intro m hm
  unfold areCrew at e
  simp only [Bool.and_eq_true] at e
  have := crewFrom_ok e.1 m hm
  unfold okM at this
  exact of_decide_eq_true this

def healthy (l : List S68) : List Int := (l.filter (fun m => !m.f3)).map (·.f0)
theorem healthy_len (l : List S68) : (healthy l).length ≤ l.length := by
  unfold healthy
  rw [List.length_map]
  exact List.length_filter_le _ _
theorem impl_Healthy_ev {l : List S68} (hl : l.length ≤ 100000000) : Ev (fun k => impl_Healthy.f k l) (healthy l) := by
  have key := evScan l (fun k (acc : List Int) i => impl_Healthy.l0 k acc l (l.length : Int) i) (fun acc i t => acc ++ healthy t) (fun acc i => acc.length ≤ i) (fun acc _ => by
      rw [show acc ++ healthy [] = acc by simp [healthy]]
      refine Ev.step (f := fun _ => some acc) (fun k => ?_) (Ev.now _)
      simp only [impl_Healthy.l0]
      rw [if_neg (by omega)]) (fun acc i t h _ hi ih => by
      have st : ∀ k, impl_Healthy.l0 (k + 1) acc l (l.length : Int) (i : Int) = if l[i].f3 = true then impl_Healthy.l0 k acc l (l.length : Int) ((i + 1 : Nat) : Int) else impl_Healthy.l0 k (acc ++ [l[i].f0]) l (l.length : Int) ((i + 1 : Nat) : Int) := by
        intro k
        simp only [impl_Healthy.l0]
        rw [if_pos (by omega), if_pos (by omega), if_pos (by omega), rdM h, wrapSucc (by omega), if_pos (show acc.length < 17592186044416 by omega)]
      refine Ev.step st ?_
      by_cases d : l[i].f3 = true
      · refine evPos d ?_
        have := ih acc (by omega)
        simpa [healthy, d] using this
      · refine evNeg d ?_
        have := ih (acc ++ [l[i].f0]) (by simp; omega)
        simpa [healthy, d] using this)
    [] (by simp)
  unfold impl_Healthy.f
  simpa using key

/-- How those who are well are divided. -/
def ropeTeams : List Int → List (List Int)
  | [a, b] => [[a, b]]
  | [a, b, c] => [[a, b, c]]
  | [a, b, c, d] => [[a, b], [c, d]]
  | [a, b, c, d, e] => [[a, b, c], [d, e]]
  | [a, b, c, d, e, f] => [[a, b, c], [d, e, f]]
  | [a, b, c, d, e, f, g] => [[a, b, c], [d, e], [f, g]]
  | [a, b, c, d, e, f, g, h] => [[a, b, c], [d, e, f], [g, h]]
  | _ => []
def ropesOf (l : List S68) : List (List Int) := if areCrew l = true ∧ 2 ≤ (healthy l).length then ropeTeams (healthy l) else []
theorem listUpTo8 {p : List Int → Prop} (h : List Int) (h2 : 2 ≤ h.length) (h8 : h.length ≤ 8) (q2 : ∀ a b, p [a, b]) (q3 : ∀ a b c, p [a, b, c]) (q4 : ∀ a b c d, p [a, b, c, d]) (q5 : ∀ a b c d e, p [a, b, c, d, e])
    (q6 : ∀ a b c d e f, p [a, b, c, d, e, f]) (q7 : ∀ a b c d e f g, p [a, b, c, d, e, f, g]) (q8 : ∀ a b c d e f g i, p [a, b, c, d, e, f, g, i]) : p h := by
  match h, h2, h8 with
  | [a, b], _, _ => exact q2 a b
  | [a, b, c], _, _ => exact q3 a b c
  | [a, b, c, d], _, _ => exact q4 a b c d
  | [a, b, c, d, e], _, _ => exact q5 a b c d e
  | [a, b, c, d, e, f], _, _ => exact q6 a b c d e f
  | [a, b, c, d, e, f, g], _, _ => exact q7 a b c d e f g
  | [a, b, c, d, e, f, g, i], _, _ => exact q8 a b c d e f g i
  | _ :: _ :: _ :: _ :: _ :: _ :: _ :: _ :: _ :: _, _, x => simp at x
theorem ropesOf_pos (l : List S68) : decide (((ropesOf l).length : Int) > 0) = decide (areCrew l = true ∧ 2 ≤ (healthy l).length) := by
  unfold ropesOf
  by_cases c : areCrew l = true ∧ 2 ≤ (healthy l).length
  · rw [if_pos c, decide_eq_true c, decide_eq_true_eq]
    have h8 : (healthy l).length ≤ 8 := Nat.le_trans (healthy_len l) (areCrew_len c.1).2
    refine listUpTo8 (p := fun h => ((ropeTeams h).length : Int) > 0) (healthy l) c.2 h8 ?_ ?_ ?_ ?_ ?_ ?_ ?_
    all_goals
      intros
      simp [ropeTeams]
  · rw [if_neg c, decide_eq_false c]
    simp

theorem inRange_eq (a b c : Int) : impl_InRange.f a b c = some (decide (b ≤ a ∧ a ≤ c)) := by
  unfold impl_InRange.f
  by_cases h : b ≤ a
  · rw [if_pos h]
    simp [h]
  · rw [if_neg h]
    simp [h]

theorem impl_AreCrew_ev {l : List S68} (hl : l.length ≤ 100000000) : Ev (fun k => impl_AreCrew.f k l) (areCrew l) := by
  have key := evScan l (fun k (_ : Unit) i => impl_AreCrew.l0 k l l (l.length : Int) i) (fun _ i t => crewFrom (prevId l i) t && decide (1 ≤ l.length ∧ l.length ≤ 8)) (fun _ _ => True) (fun _ _ => by
      refine Ev.step (f := fun _ => some (decide (1 ≤ l.length ∧ l.length ≤ 8))) (fun k => ?_) ?_
      · simp only [impl_AreCrew.l0, inRange_eq, Option.bind_some]
        rw [if_neg (by omega), Option.some.injEq, decide_eq_decide]
        omega
      · simp only [crewFrom, Bool.true_and]
        exact Ev.now _) (fun _ i t h ht _ ih => by
      have ih := ih () trivial
      rw [prevId_succ h] at ih
      have st : ∀ k, impl_AreCrew.l0 (k + 1) l l (l.length : Int) (i : Int) = if okM l[i] = true ∧ prevId l i < l[i].f0 then impl_AreCrew.l0 k l l (l.length : Int) ((i + 1 : Nat) : Int) else some false := by
        intro k
        simp only [impl_AreCrew.l0, inRange_eq, Option.bind_some]
        rw [if_pos (by omega), if_pos (by omega), if_pos (by omega), rdM h, wrapSucc (by omega)]
        unfold okM
        by_cases c0 : 1 ≤ l[i].f0 ∧ l[i].f0 ≤ 99
        · by_cases c1 : 0 < i
          · rw [← prevId_pos hl (by omega) c1]
            have w1 : wrap64 ((i : Int) - 1) = ((i - 1 : Nat) : Int) := by rw [wrapId (n := (i : Int) - 1) (by omega) (by omega)]; omega
            rw [w1]
            have g1 : (i : Int) > 0 := by omega
            have g2 : (0 : Int) ≤ ((i - 1 : Nat) : Int) := by omega
            have g3 : ((i - 1 : Nat) : Int) < (l.length : Int) := by omega
            by_cases c2 : l[i].f0 ≤ prevId l i
            · have n2 : ¬ prevId l i < l[i].f0 := by omega
              simp only [c0, and_self, decide_true, if_true, if_pos g1, if_pos g2, if_pos g3, if_pos c2, n2, and_false, if_false]
            · have n2 : prevId l i < l[i].f0 := by omega
              by_cases c3 : 0 ≤ l[i].f1 ∧ l[i].f1 ≤ 100
              · by_cases c4 : 1 ≤ l[i].f2 ∧ l[i].f2 ≤ 10
                · simp only [c0, c3, c4, and_self, decide_true, if_true, if_pos g1, if_pos g2, if_pos g3, if_neg c2, n2]
                · simp only [c0, c3, c4, and_self, decide_true, decide_false, if_true, if_false, Bool.false_eq_true, if_pos g1, if_pos g2, if_pos g3, if_neg c2, and_false, false_and]
              · simp only [c0, c3, and_self, decide_true, decide_false, if_true, if_false, Bool.false_eq_true, if_pos g1, if_pos g2, if_pos g3, if_neg c2, and_false, false_and]
          · have g1 : ¬ ((i : Int) > 0) := by omega
            have n2 : prevId l i < l[i].f0 := by
              unfold prevId
              rw [if_pos (by omega)]
              omega
            by_cases c3 : 0 ≤ l[i].f1 ∧ l[i].f1 ≤ 100
            · by_cases c4 : 1 ≤ l[i].f2 ∧ l[i].f2 ≤ 10
              · simp only [c0, c3, c4, and_self, decide_true, if_true, if_neg g1, n2]
              · simp only [c0, c3, c4, and_self, decide_true, decide_false, if_true, if_false, Bool.false_eq_true, if_neg g1, and_false, false_and]
            · simp only [c0, c3, and_self, decide_true, decide_false, if_true, if_false, Bool.false_eq_true, if_neg g1, and_false, false_and]
        · simp [c0]
      refine Ev.step st ?_
      by_cases c : okM l[i] = true ∧ prevId l i < l[i].f0
      · refine evPos c ?_
        simp only [crewFrom, c.1, c.2, decide_true, Bool.true_and]
        exact ih
      · refine evNeg c ?_
        have e : crewFrom (prevId l i) (l[i] :: t) = false := by
          simp only [crewFrom]
          by_cases d : okM l[i] = true
          · have n : ¬ prevId l i < l[i].f0 := fun x => c ⟨d, x⟩
            simp [n]
          · simp [d]
        rw [e, Bool.false_and]
        exact Ev.now _)
    () trivial
  unfold impl_AreCrew.f
  exact key

theorem impl_RopeTeams_ev {l : List S68} (hl : l.length ≤ 100000000) : Ev (fun k => impl_RopeTeams.f k l) (ropesOf l) := by
  unfold impl_RopeTeams.f ropesOf
  refine Ev.bind (impl_Healthy_ev hl) (Ev.bind (impl_AreCrew_ev hl) ?_)
  by_cases c : areCrew l = true
  · refine evPos c ?_
    by_cases d : 2 ≤ (healthy l).length
    · rw [if_pos ⟨c, d⟩, decide_eq_false (by omega)]
      have h8 : (healthy l).length ≤ 8 := Nat.le_trans (healthy_len l) (areCrew_len c).2
      refine listUpTo8 (p := fun h => Ev (fun k => impl_RopeTeams.j0 k h false) (ropeTeams h)) (healthy l) d h8 ?_ ?_ ?_ ?_ ?_ ?_ ?_
      all_goals
        intros
        refine evAfter 5 (fun k => ?_)
        simp [impl_RopeTeams.j0, impl_RopeTeams.l0, impl_copyOf.f, ropeTeams]
    · rw [if_neg (fun x => d x.2), decide_eq_true (by omega)]
      refine Ev.step (f := fun _ => some []) (fun k => ?_) (Ev.now _)
      simp only [impl_RopeTeams.j0, if_true]
  · rw [if_neg (fun x => c x.1)]
    refine evNeg c (Ev.step (f := fun _ => some []) (fun k => ?_) (Ev.now _))
    simp only [impl_RopeTeams.j0, if_true]

theorem l1In_eq (a b c : Int) : spec_l1In.f a b c = some (decide (b ≤ a ∧ a ≤ c)) := by
  unfold spec_l1In.f
  by_cases h : b ≤ a
  · rw [if_pos h]
    simp [h]
  · rw [if_neg h]
    simp [h]

theorem spec_AreCrew_ev {l : List S68} (hl : l.length ≤ 100000000) : Ev (fun k => spec_AreCrew.f k l) (areCrew l) := by
  have key := evScan l (fun k (_ : Unit) i => spec_AreCrew.l0 k l i) (fun _ i t => crewFrom (prevId l i) t && decide (1 ≤ l.length ∧ l.length ≤ 8)) (fun _ _ => True) (fun _ _ => by
      refine Ev.step (f := fun _ => some (decide (1 ≤ l.length ∧ l.length ≤ 8))) (fun k => ?_) ?_
      · simp only [spec_AreCrew.l0, l1In_eq, Option.bind_some]
        rw [if_neg (by omega), Option.some.injEq, decide_eq_decide]
        omega
      · simp only [crewFrom, Bool.true_and]
        exact Ev.now _) (fun _ i t h ht _ ih => by
      have ih := ih () trivial
      rw [prevId_succ h] at ih
      have st : ∀ k, spec_AreCrew.l0 (k + 1) l (i : Int) = if okM l[i] = true ∧ prevId l i < l[i].f0 then spec_AreCrew.l0 k l ((i + 1 : Nat) : Int) else some false := by
        intro k
        simp only [spec_AreCrew.l0, l1In_eq, Option.bind_some]
        rw [if_pos (by omega), if_pos (by omega), rdM h, wrapSucc (by omega)]
        unfold okM
        by_cases c0 : 1 ≤ l[i].f0 ∧ l[i].f0 ≤ 99
        · by_cases c3 : 0 ≤ l[i].f1 ∧ l[i].f1 ≤ 100
          · by_cases c4 : 1 ≤ l[i].f2 ∧ l[i].f2 ≤ 10
            · by_cases c1 : 0 < i
              · rw [← prevId_pos hl (by omega) c1]
                have w1 : wrap64 ((i : Int) - 1) = ((i - 1 : Nat) : Int) := by rw [wrapId (n := (i : Int) - 1) (by omega) (by omega)]; omega
                rw [w1]
                have g1 : (i : Int) > 0 := by omega
                have g2 : (0 : Int) ≤ ((i - 1 : Nat) : Int) := by omega
                have g3 : ((i - 1 : Nat) : Int) < (l.length : Int) := by omega
                by_cases c2 : prevId l i ≥ l[i].f0
                · have n2 : ¬ prevId l i < l[i].f0 := by omega
                  simp only [c0, c3, c4, and_self, decide_true, if_true, if_pos g1, if_pos g2, if_pos g3, if_pos c2, n2, and_false, if_false]
                · have n2 : prevId l i < l[i].f0 := by omega
                  simp only [c0, c3, c4, and_self, decide_true, if_true, if_pos g1, if_pos g2, if_pos g3, if_neg c2, n2]
              · have g1 : ¬ ((i : Int) > 0) := by omega
                have n2 : prevId l i < l[i].f0 := by
                  unfold prevId
                  rw [if_pos (by omega)]
                  omega
                simp only [c0, c3, c4, and_self, decide_true, if_true, if_neg g1, n2]
            · simp [c0, c3, c4]
          · simp [c0, c3]
        · simp [c0]
      refine Ev.step st ?_
      by_cases c : okM l[i] = true ∧ prevId l i < l[i].f0
      · refine evPos c ?_
        simp only [crewFrom, c.1, c.2, decide_true, Bool.true_and]
        exact ih
      · refine evNeg c ?_
        have e : crewFrom (prevId l i) (l[i] :: t) = false := by
          simp only [crewFrom]
          by_cases d : okM l[i] = true
          · have n : ¬ prevId l i < l[i].f0 := fun x => c ⟨d, x⟩
            simp [n]
          · simp [d]
        rw [e, Bool.false_and]
        exact Ev.now _)
    () trivial
  unfold spec_AreCrew.f
  exact key

theorem spec_Healthy_ev {l : List S68} (hl : l.length ≤ 100000000) : Ev (fun k => spec_Healthy.f k l) (healthy l) := by
  have key := evScan l (fun k (acc : List Int) i => spec_Healthy.l0 k l acc i) (fun acc i t => acc ++ healthy t) (fun acc i => acc.length ≤ i) (fun acc _ => by
      rw [show acc ++ healthy [] = acc by simp [healthy]]
      refine Ev.step (f := fun _ => some acc) (fun k => ?_) (Ev.now _)
      simp only [spec_Healthy.l0]
      rw [if_neg (by omega)]) (fun acc i t h _ hi ih => by
      have st : ∀ k, spec_Healthy.l0 (k + 1) l acc (i : Int) = if l[i].f3 = true then spec_Healthy.l0 k l acc ((i + 1 : Nat) : Int) else spec_Healthy.l0 k l (acc ++ [l[i].f0]) ((i + 1 : Nat) : Int) := by
        intro k
        simp only [spec_Healthy.l0]
        rw [if_pos (by omega), if_pos (by omega), rdM h, wrapSucc (by omega), if_pos (show acc.length < 17592186044416 by omega)]
      refine Ev.step st ?_
      by_cases d : l[i].f3 = true
      · refine evPos d ?_
        have := ih acc (by omega)
        simpa [healthy, d] using this
      · refine evNeg d ?_
        have := ih (acc ++ [l[i].f0]) (by simp; omega)
        simpa [healthy, d] using this)
    [] (by simp)
  unfold spec_Healthy.f
  simpa using key

theorem spec_RopeTeams_ev {l : List S68} (hl : l.length ≤ 100000000) : Ev (fun k => spec_RopeTeams.f k l) (ropesOf l) := by
  unfold spec_RopeTeams.f ropesOf
  simp only [Option.bind_some]
  refine Ev.bind (spec_Healthy_ev hl) (Ev.bind (spec_AreCrew_ev hl) ?_)
  by_cases c : areCrew l = true
  · refine evPos c ?_
    by_cases d : 2 ≤ (healthy l).length
    · rw [if_pos ⟨c, d⟩, decide_eq_false (by omega)]
      have h8 : (healthy l).length ≤ 8 := Nat.le_trans (healthy_len l) (areCrew_len c).2
      refine listUpTo8 (p := fun h => Ev (fun k => spec_RopeTeams.j0 k [] h false) (ropeTeams h)) (healthy l) d h8 ?_ ?_ ?_ ?_ ?_ ?_ ?_
      all_goals
        intros
        refine evAfter 5 (fun k => ?_)
        simp [spec_RopeTeams.j0, spec_RopeTeams.l0, ropeTeams]
    · rw [if_neg (fun x => d x.2), decide_eq_true (by omega)]
      refine Ev.step (f := fun _ => some []) (fun k => ?_) (Ev.now _)
      simp only [spec_RopeTeams.j0, if_true]
  · rw [if_neg (fun x => c x.1)]
    refine evNeg c (Ev.step (f := fun _ => some []) (fun k => ?_) (Ev.now _))
    simp only [spec_RopeTeams.j0, if_true]

def okS70 (x : S70) : Prop := (Lit.int .i64 x.f0).wf = true ∧ (Lit.int .i64 x.f1).wf = true ∧ (Lit.int .i64 x.f2).wf = true ∧ True
def FnExactRopeTeams.Claim : Prop := ∀ (l0 : List (S70)), l0.length ≤ maxLen → (∀ x ∈ l0, okS70 x) → ∃ k, laws_FnExactRopeTeams.f k l0 = some true
theorem ropesOf_small (l : List S68) : (ropesOf l).length ≤ 3 ∧ (∀ x ∈ ropesOf l, x.length ≤ 3) ∧ sumLen (ropesOf l) ≤ 9 := by
  unfold ropesOf
  by_cases c : areCrew l = true ∧ 2 ≤ (healthy l).length
  · rw [if_pos c]
    have h8 : (healthy l).length ≤ 8 := Nat.le_trans (healthy_len l) (areCrew_len c.1).2
    refine listUpTo8 (p := fun h => (ropeTeams h).length ≤ 3 ∧ (∀ x ∈ ropeTeams h, x.length ≤ 3) ∧ sumLen (ropeTeams h) ≤ 9) (healthy l) c.2 h8 ?_ ?_ ?_ ?_ ?_ ?_ ?_
    all_goals
      intros
      simp [ropeTeams, sumLen]
  · rw [if_neg c]
    simp [sumLen]
theorem FnExactRopeTeams : FnExactRopeTeams.Claim := by
  intro l hm _
  apply Ev.rounds
  unfold laws_FnExactRopeTeams.f
  rw [szMemberS_ok hm (by omega) (by omega)]
  simp only [Option.bind_some]
  by_cases c : (l.length : Int) ≤ 1048576
  · rw [if_pos c]
    refine evNeg (by omega) ?_
    have hl : l.length ≤ 1048576 := by omega
    have hl' : (l.map mem).length ≤ 1048576 := by rw [List.length_map]; exact hl
    obtain ⟨t0, t1, t2⟩ := ropesOf_small (l.map mem)
    have hr : ∀ x ∈ ropesOf (l.map mem), x.length ≤ 1048576 := fun x hx => Nat.le_trans (t1 x hx) (by omega)
    have h3 : (ropesOf (l.map mem)).length ≤ 1048576 := by omega
    have hp := sumLen_pos (ropesOf (l.map mem))
    refine Ev.bind (toMemberS_ev hl) (Ev.bind (spec_RopeTeams_ev (by omega)) (Ev.bind (toMemberS_ev hl) (Ev.bind (impl_RopeTeams_ev (by omega)) (Ev.bind (eqIntSS_same h3 hr) (evPos rfl (Ev.bind (toMemberS_ev hl) (Ev.bind (eqMemberS_same hl') (evPos rfl (Ev.bind (markMemberS_ev (by omega) (by omega) (by omega)) ?_)))))))))
    refine evNeg (by dsimp only; omega) (Ev.bind (eqIntSS_same h3 hr) ?_)
    simp only [Bool.not_true]
    refine Ev.step (fun k => rfl) ?_
    simp only [laws_FnExactRopeTeams.j0, Bool.false_eq_true, if_false]
    refine Ev.bind (markIntSS_ev h3 hr (by omega) (by omega)) (Ev.bind (heldIntSS_ev h3 hr (by omega) (by omega)) ?_)
    refine evNeg (by omega) (evPos rfl ?_)
    refine Ev.bind (toMemberS_ev hl) (Ev.bind (impl_RopeTeams_ev (by omega)) (Ev.bind (eqIntSS_same h3 hr) (evPos rfl (Ev.bind (heldIntSS_ev h3 hr (by omega) (by omega)) ?_))))
    exact evNeg (by omega) (evPos rfl (Ev.now _))
  · rw [if_neg c]
    exact evPos (by omega) (Ev.now _)
end Go.Proofs.Ytdgpnmbmnnmdcaa.Pure
