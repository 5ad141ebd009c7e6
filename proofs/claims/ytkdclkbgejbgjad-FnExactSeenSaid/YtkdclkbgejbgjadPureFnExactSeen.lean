/- For every land, every mark and every distance, the program's Seen and the reference's give the same list, new memory that nothing else changes: the law's Go function answers true. No condition beyond the kinds of the numbers. -/
import Derived.Test.YtkdclkbgejbgjadPFnExactSeenx6
import Derived.Test.YtkdclkbgejbgjadAid
namespace Go.Proofs.Ytkdclkbgejbgjad.Pure
open Go.RowKit Go.Proofs.Ytkdclkbgejbgjad.PFnExactSeen Go.Proofs.Ytkdclkbgejbgjad.Aid Go.Proofs.YtkdclkbgejbgjadW.PrintWords Go.Proofs.YtkdclkbgejbgjadW.PrintLast Go.Proofs.YtkdclkbgejbgjadW.PrintMore
set_option linter.unusedVariables false
set_option linter.unusedSimpArgs false
theorem toIntS_ev {l : List Int} (hl : l.length ≤ 1048576) : Ev (fun k => laws_toIntS.f k l) l := by
  have key := evScan l (fun k (acc : List Int) i => laws_toIntS.l0 k l acc i) (fun _ _ _ => l) (fun acc i => acc.length = l.length ∧ acc.take i = l.take i) (fun acc ⟨h0, h1⟩ => by
      refine Ev.step (f := fun _ => some acc) (fun k => ?_) ?_
      · simp only [laws_toIntS.l0]
        rw [if_neg (by omega)]
      · rw [take_whole h0 h1]
        exact Ev.now _) (fun acc i t h ht ⟨h0, h1⟩ ih => by
      refine Ev.step (fun k => ?_) (ih (acc.set i l[i]) ⟨by simpa using h0, take_set_succ h h0 h1⟩)
      simp only [laws_toIntS.l0]
      rw [if_pos (by omega), if_pos (by omega), if_pos (by omega), rdIn h, wrapSucc (by omega), toNatCast])
    (List.replicate l.length 0) ⟨by simp, by simp⟩
  refine Ev.congr (fun k => ?_) key
  simp only [laws_toIntS.f]
  rw [if_pos (by omega), if_pos (by omega), toNatCast]

theorem eqIntS_ev {a b : List Int} (ha : a.length ≤ 1048576) : Ev (fun k => laws_eqIntS.f k a b) (decide (a = b)) := by
  by_cases e : a.length = b.length
  · have key := evScan a (fun k (_ : Unit) i => laws_eqIntS.l0 k a b i) (fun _ i t => decide (t = b.drop i)) (fun _ _ => True) (fun _ _ => by
        refine Ev.step (f := fun _ => some true) (fun k => ?_) ?_
        · simp only [laws_eqIntS.l0]
          rw [if_neg (by omega)]
        · rw [e, List.drop_length]
          exact Ev.now _) (fun _ i t h ht _ ih => by
        have hb : i < b.length := by omega
        have st : ∀ k, laws_eqIntS.l0 (k + 1) a b (i : Int) = if a[i] = b[i] then laws_eqIntS.l0 k a b ((i + 1 : Nat) : Int) else some false := by
          intro k
          simp only [laws_eqIntS.l0]
          rw [if_pos (by omega), if_pos (by omega), if_pos (by omega), rdIn h, rdIn hb, wrapSucc (by omega)]
        refine Ev.step st ?_
        rw [List.drop_eq_getElem_cons hb]
        by_cases c : a[i] = b[i]
        · refine evPos c ?_
          rw [show decide (a[i] :: t = b[i] :: b.drop (i + 1)) = decide (t = b.drop (i + 1)) by rw [decide_eq_decide, List.cons.injEq, and_iff_right c]]
          exact ih () trivial
        · refine evNeg c ?_
          rw [show decide (a[i] :: t = b[i] :: b.drop (i + 1)) = false by rw [decide_eq_false_iff_not, List.cons.injEq]; exact fun e => c e.1]
          exact Ev.now _)
      () trivial
    refine Ev.congr (fun k => ?_) key
    simp only [laws_eqIntS.f]
    rw [if_pos (by omega)]
  · have ne : ¬ a = b := fun h => e (by rw [h])
    refine Ev.congr (f := fun _ => some (decide (a = b))) (fun k => ?_) (Ev.now _)
    simp only [laws_eqIntS.f]
    rw [if_neg (by omega), decide_eq_false ne]
theorem eqIntS_same {a : List Int} (ha : a.length ≤ 1048576) : Ev (fun k => laws_eqIntS.f k a a) true := by
  have := eqIntS_ev (a := a) (b := a) ha
  rwa [decide_eq_true rfl] at this

theorem szIntS_ok {l : List Int} {q : Int} (hl : l.length ≤ maxLen) (h0 : 0 ≤ q) (h1 : q ≤ 1048576) : laws_szIntS.f l q = some (if (l.length : Int) ≤ q then q - (l.length : Int) else -1) := by
  unfold laws_szIntS.f
  unfold maxLen at hl
  rw [wrapId (n := q - (l.length : Int)) (by omega) (by omega)]
  by_cases c : (l.length : Int) ≤ q
  · rw [if_neg (by omega), if_pos c]
  · rw [if_pos (by omega), if_neg c]
theorem szLand_ok {w h : Int} {l : List Int} {q : Int} (hl : l.length ≤ maxLen) (h0 : 0 ≤ q) (h1 : q ≤ 1048576) : laws_szLand.f w h l q = some (if (l.length : Int) ≤ q then q - (l.length : Int) else -1) := by
  unfold laws_szLand.f
  rw [szIntS_ok hl h0 h1, Option.bind_some]
  by_cases c : (l.length : Int) ≤ q
  · rw [if_pos c, if_neg (by omega)]
  · rw [if_neg c, if_pos (by omega)]
theorem toLand_ev {w h : Int} {l : List Int} (hl : l.length ≤ 1048576) : Ev (fun k => laws_toLand.f k w h l) (w, h, l) := by
  unfold laws_toLand.f
  exact Ev.bind (toIntS_ev hl) (Ev.now _)
theorem eqLand_same {w h : Int} {l : List Int} (hl : l.length ≤ 1048576) : Ev (fun k => laws_eqLand.f k w h l w h l) true := by
  unfold laws_eqLand.f
  exact evPos rfl (evPos rfl (Ev.bind (eqIntS_same hl) (evPos rfl (Ev.now _))))

theorem markIntS_ev {l : List Int} {q : Int} (hl : l.length ≤ 1048576) (h0 : 0 ≤ q) (h1 : q ≤ 1000000000000) : Ev (fun k => laws_markIntS.f k l q) (q + (l.length : Int), seqFrom q l.length) := by
  have key := evScan l (fun k (s : List Int × Int) i => laws_markIntS.l0 k s.1 s.2 i) (fun _ _ _ => (q + (l.length : Int), seqFrom q l.length)) (fun s i => s.1.length = l.length ∧ s.1.take i = (seqFrom q l.length).take i ∧ s.2 = q + (i : Int)) (fun s ⟨g0, g1, g2⟩ => by
      refine Ev.step (f := fun _ => some (s.2, s.1)) (fun k => ?_) ?_
      · simp only [laws_markIntS.l0]
        rw [if_neg (by omega)]
      · have : s.1 = seqFrom q l.length := take_whole (by rw [seqFrom_length]; exact g0) (by rw [seqFrom_length]; exact g1)
        rw [this, g2]
        exact Ev.now _) (fun s i t h ht ⟨g0, g1, g2⟩ ih => by
      have hs : i < (seqFrom q l.length).length := by rw [seqFrom_length]; exact h
      have e := take_set_succ hs (by rw [seqFrom_length]; exact g0) g1
      rw [seqFrom_at] at e
      refine Ev.step (fun k => ?_) (ih (s.1.set i (q + (i : Int)), q + (i : Int) + 1) ⟨by simpa using g0, e, by simp only [Int.natCast_add]; omega⟩)
      simp only [laws_markIntS.l0]
      rw [if_pos (by omega), if_pos (by omega), g2, toNatCast, wrapSucc (by omega), wrapId (n := q + (i : Int) + 1) (by omega) (by omega)])
    (l, q) ⟨rfl, by simp, by simp⟩
  unfold laws_markIntS.f
  exact key
theorem heldIntS_ev {n : Nat} {q : Int} (hl : n ≤ 1048576) (h0 : 0 ≤ q) (h1 : q ≤ 1000000000000) : Ev (fun k => laws_heldIntS.f k (seqFrom q n) q) (q + (n : Int)) := by
  have key := evScan (seqFrom q n) (fun k (s : Int) i => laws_heldIntS.l0 k (seqFrom q n) s i) (fun _ _ _ => q + (n : Int)) (fun s i => s = q + (i : Int)) (fun s g => by
      refine Ev.step (f := fun _ => some s) (fun k => ?_) ?_
      · simp only [laws_heldIntS.l0]
        rw [if_neg (by omega)]
      · rw [g, seqFrom_length]
        exact Ev.now _) (fun s i t h ht g ih => by
      have hn : i < n := by rw [seqFrom_length] at h; exact h
      refine Ev.step (fun k => ?_) (ih (q + (i : Int) + 1) (by simp only [Int.natCast_add]; omega))
      simp only [laws_heldIntS.l0]
      rw [if_pos (by omega), if_pos (by omega), rdIn h, seqFrom_at, g, if_pos rfl, wrapSucc (by omega), wrapId (n := q + (i : Int) + 1) (by omega) (by omega)])
    q (by simp)
  unfold laws_heldIntS.f
  exact key

theorem markLand_ev {w h : Int} {l : List Int} {q : Int} (hl : l.length ≤ 1048576) (h0 : 0 ≤ q) (h1 : q ≤ 1000000000000) : Ev (fun k => laws_markLand.f k w h l q) (q + (l.length : Int), seqFrom q l.length) := by
  unfold laws_markLand.f
  exact Ev.bind (markIntS_ev hl h0 h1) (Ev.now _)

def inB (lo hi : Int) (l : List Int) : Bool := l.all (fun x => decide (lo ≤ x ∧ x ≤ hi))
theorem inB_iff {lo hi : Int} {l : List Int} : inB lo hi l = true ↔ ∀ x ∈ l, lo ≤ x ∧ x ≤ hi := by
  unfold inB
  simp only [List.all_eq_true, decide_eq_true_eq]
theorem inB_yes {lo hi x : Int} {t : List Int} (d : lo ≤ x ∧ x ≤ hi) : inB lo hi (x :: t) = inB lo hi t := by
  simp only [inB, List.all_cons, d, and_self, decide_true, Bool.true_and]
theorem inB_no {lo hi x : Int} {t : List Int} (d : ¬ (lo ≤ x ∧ x ≤ hi)) : inB lo hi (x :: t) = false := by
  simp only [inB, List.all_cons, d, decide_false, Bool.false_and]
/-- A land: its sides, its cells. -/
def landOk (w h : Int) (c : List Int) : Prop := ((1 ≤ w ∧ w ≤ 8) ∧ (1 ≤ h ∧ h ≤ 8)) ∧ (c.length : Int) = w * h ∧ ∀ x ∈ c, 0 ≤ x ∧ x ≤ 2
instance (w h : Int) (c : List Int) : Decidable (landOk w h c) := inferInstanceAs (Decidable (_ ∧ _))
def cellOk (w h : Int) (c : List Int) (n : Int) : Prop := landOk w h c ∧ 0 ≤ n ∧ n < (c.length : Int)
instance (w h : Int) (c : List Int) (n : Int) : Decidable (cellOk w h c n) := inferInstanceAs (Decidable (_ ∧ _))
def openOk (w h : Int) (c : List Int) (n : Int) : Prop := cellOk w h c n ∧ rd c n ≠ 2
instance (w h : Int) (c : List Int) (n : Int) : Decidable (openOk w h c n) := inferInstanceAs (Decidable (_ ∧ _))
theorem sideB {w h : Int} (hw : 1 ≤ w ∧ w ≤ 8) (hh : 1 ≤ h ∧ h ≤ 8) : 1 ≤ w * h ∧ w * h ≤ 64 := by
  have h0 : 1 * 1 ≤ w * h := Int.mul_le_mul hw.1 hh.1 (by omega) (by omega)
  have h1 : w * h ≤ 8 * 8 := Int.mul_le_mul hw.2 hh.2 (by omega) (by omega)
  omega
theorem landOk.len {w h : Int} {c : List Int} (x : landOk w h c) : 1 ≤ c.length ∧ c.length ≤ 64 := by
  have := sideB x.1.1 x.1.2
  have := x.2.1
  omega

def absI (x : Int) : Int := if x < 0 then -x else x
/-- How far two cells are from each other. -/
def apart (w h : Int) (c : List Int) (a b : Int) : Int := if cellOk w h c a ∧ cellOk w h c b then absI (a % w - b % w) + absI (a / w - b / w) else -1
theorem modB {w a : Int} (hw : 1 ≤ w ∧ w ≤ 8) (ha : 0 ≤ a) (h1 : a ≤ 64) : Int.tmod a w = a % w ∧ Int.tdiv a w = a / w ∧ 0 ≤ a % w ∧ a % w < 8 ∧ 0 ≤ a / w ∧ a / w ≤ 64 := by
  have e0 := Int.emod_nonneg a (show w ≠ 0 by omega)
  have e1 := Int.emod_lt_of_pos a (show 0 < w by omega)
  have e2 := Int.ediv_nonneg ha (show 0 ≤ w by omega)
  have e3 := Int.ediv_le_self w ha
  exact ⟨Int.tmod_eq_emod_of_nonneg ha, Int.tdiv_eq_ediv_of_nonneg ha, e0, by omega, e2, by omega⟩

/-- The cells of n, from the one at i on, that are open and so far from a mark. -/
def seenFrom (w h : Int) (c : List Int) (mark far : Int) : Nat → List Int → List Int
  | _, [] => []
  | i, _ :: t => if cellOk w h c mark ∧ openOk w h c (i : Int) ∧ apart w h c mark (i : Int) = far then (i : Int) :: seenFrom w h c mark far (i + 1) t else seenFrom w h c mark far (i + 1) t
def seenS (w h : Int) (c : List Int) (mark far : Int) : List Int := seenFrom w h c mark far 0 c
theorem seenFrom_len (w h : Int) (c : List Int) (mark far : Int) : ∀ (t : List Int) (i : Nat), (seenFrom w h c mark far i t).length ≤ t.length
  | [], _ => Nat.le_refl _
  | _ :: t, i => by
    have := seenFrom_len w h c mark far t (i + 1)
    simp only [seenFrom, List.length_cons]
    split
    · simp only [List.length_cons]
      omega
    · omega

theorem l1In_eq (a b c : Int) : spec_l1In.f a b c = some (decide (b ≤ a ∧ a ≤ c)) := by
  unfold spec_l1In.f
  by_cases h : b ≤ a
  · rw [if_pos h]
    simp [h]
  · rw [if_neg h]
    simp [h]
theorem inRange_eq (a b c : Int) : impl_InRange.f a b c = some (decide (b ≤ a ∧ a ≤ c)) := by
  unfold impl_InRange.f
  by_cases h : b ≤ a
  · rw [if_pos h]
    simp [h]
  · rw [if_neg h]
    simp [h]

theorem allIn_ev {l : List Int} (lo hi : Int) (hl : l.length ≤ 100000000) : Ev (fun k => impl_allIn.f k l lo hi) (inB lo hi l) := by
  have key := evScan l (fun k (_ : Unit) i => impl_allIn.l0 k lo hi l (l.length : Int) i) (fun _ _ t => inB lo hi t) (fun _ _ => True) (fun _ _ => by
      rw [show inB lo hi [] = true from rfl]
      refine Ev.step (f := fun _ => some true) (fun k => ?_) (Ev.now _)
      simp only [impl_allIn.l0]
      rw [if_neg (by omega)]) (fun _ i t h _ _ ih => by
      have st : ∀ k, impl_allIn.l0 (k + 1) lo hi l (l.length : Int) (i : Int) = if decide (lo ≤ l[i] ∧ l[i] ≤ hi) = true then impl_allIn.l0 k lo hi l (l.length : Int) ((i + 1 : Nat) : Int) else some false := by
        intro k
        simp only [impl_allIn.l0, inRange_eq, Option.bind_some]
        rw [if_pos (by omega), if_pos (by omega), if_pos (by omega), rdIn h, wrapSucc (by omega)]
      refine Ev.step st ?_
      by_cases d : lo ≤ l[i] ∧ l[i] ≤ hi
      · refine evPos (decide_eq_true d) ?_
        rw [inB_yes d]
        exact ih () trivial
      · refine evNeg (by rw [decide_eq_true_eq]; exact d) ?_
        rw [inB_no d]
        exact Ev.now _)
    () trivial
  unfold impl_allIn.f
  exact key
theorem impl_IsLand_ev (w h : Int) (c : List Int) : Ev (fun k => impl_IsLand.f k w h c) (decide (landOk w h c)) := by
  unfold impl_IsLand.f
  simp only [inRange_eq, Option.bind_some]
  by_cases c0 : 1 ≤ w ∧ w ≤ 8
  · refine evPos (decide_eq_true c0) ?_
    by_cases c1 : 1 ≤ h ∧ h ≤ 8
    · have sb := sideB c0 c1
      refine evPos (decide_eq_true c1) ?_
      rw [wrapId (n := w * h) (by omega) (by omega)]
      by_cases c2 : (c.length : Int) = w * h
      · refine evPos c2 (Ev.bind (allIn_ev 0 2 (by omega)) ?_)
        rw [show decide (landOk w h c) = inB 0 2 c by rw [Bool.eq_iff_iff, decide_eq_true_eq, inB_iff]; exact ⟨fun x => x.2.2, fun x => ⟨⟨c0, c1⟩, c2, x⟩⟩]
        exact Ev.now _
      · rw [decide_eq_false (fun x : landOk w h c => c2 x.2.1)]
        exact evNeg c2 (Ev.now _)
    · rw [decide_eq_false (fun x : landOk w h c => c1 x.1.2)]
      exact evNeg (by rw [decide_eq_true_eq]; exact c1) (Ev.now _)
  · rw [decide_eq_false (fun x : landOk w h c => c0 x.1.1)]
    exact evNeg (by rw [decide_eq_true_eq]; exact c0) (Ev.now _)
theorem impl_IsCell_ev (w h : Int) (c : List Int) (n : Int) : Ev (fun k => impl_IsCell.f k w h c n) (decide (cellOk w h c n)) := by
  unfold impl_IsCell.f
  refine Ev.bind (impl_IsLand_ev w h c) ?_
  by_cases q : landOk w h c
  · refine evPos (decide_eq_true q) ?_
    have := q.len
    simp only [inRange_eq, Option.bind_some]
    rw [wrapId (n := (c.length : Int) - 1) (by omega) (by omega), show decide (cellOk w h c n) = decide (0 ≤ n ∧ n ≤ (c.length : Int) - 1) by rw [decide_eq_decide]; exact ⟨fun x => ⟨x.2.1, by have := x.2.2; omega⟩, fun x => ⟨q, x.1, by omega⟩⟩]
    exact Ev.now _
  · rw [decide_eq_false (fun x : cellOk w h c n => q x.1)]
    exact evNeg (by rw [decide_eq_true_eq]; exact q) (Ev.now _)

theorem impl_IsOpen_ev (w h : Int) (c : List Int) (n : Int) : Ev (fun k => impl_IsOpen.f k w h c n) (decide (openOk w h c n)) := by
  unfold impl_IsOpen.f
  refine Ev.bind (impl_IsCell_ev w h c n) ?_
  by_cases q : cellOk w h c n
  · refine evPos (decide_eq_true q) (evPos q.2.1 (evPos q.2.2 ?_))
    rw [show decide (openOk w h c n) = (rd c n != 2) by rw [Bool.eq_iff_iff, decide_eq_true_eq, bne_iff_ne]; exact ⟨fun x => x.2, fun x => ⟨q, x⟩⟩]
    exact Ev.now _
  · rw [decide_eq_false (fun x : openOk w h c n => q x.1)]
    exact evNeg (by rw [decide_eq_true_eq]; exact q) (Ev.now _)

theorem impl_Apart_ev (w h : Int) (c : List Int) (a b : Int) : Ev (fun k => impl_Apart.f k w h c a b) (apart w h c a b) := by
  have no : ¬ (cellOk w h c a ∧ cellOk w h c b) → Ev (fun k => impl_Apart.j0 k a b true w h c) (apart w h c a b) := by
    intro q
    unfold apart
    rw [if_neg q]
    refine Ev.step (f := fun _ => some (-1)) (fun k => ?_) (Ev.now _)
    simp only [impl_Apart.j0, if_true]
  unfold impl_Apart.f
  refine Ev.bind (impl_IsCell_ev w h c a) ?_
  by_cases qa : cellOk w h c a
  · refine evPos (decide_eq_true qa) (Ev.bind (impl_IsCell_ev w h c b) ?_)
    by_cases qb : cellOk w h c b
    · rw [decide_eq_true qb]
      unfold apart
      rw [if_pos ⟨qa, qb⟩]
      have hw := qa.1.1.1
      have hl := qa.1.len
      have ma := modB hw qa.2.1 (by have := qa.2.2; omega)
      have mb := modB hw qb.2.1 (by have := qb.2.2; omega)
      refine Ev.step (f := fun _ => some (absI (a % w - b % w) + absI (a / w - b / w))) (fun k => ?_) (Ev.now _)
      simp only [impl_Apart.j0, Bool.not_true, Bool.false_eq_true, if_false, impl_size.f, Option.bind_some, ma.1, mb.1, ma.2.1, mb.2.1]
      rw [if_neg (by omega), wrapId (n := a / w) (by omega) (by omega), wrapId (n := b / w) (by omega) (by omega), wrapId (n := a % w - b % w) (by omega) (by omega), wrapId (n := a / w - b / w) (by omega) (by omega), wrapId (n := -(a % w - b % w)) (by omega) (by omega), wrapId (n := -(a / w - b / w)) (by omega) (by omega)]
      have e0 : mx (a % w - b % w) (-(a % w - b % w)) = absI (a % w - b % w) := by unfold mx absI; repeat' split; all_goals omega
      have e1 : mx (a / w - b / w) (-(a / w - b / w)) = absI (a / w - b / w) := by unfold mx absI; repeat' split; all_goals omega
      rw [e0, e1, wrapId]
      · unfold absI
        repeat' split
        all_goals omega
      · unfold absI
        repeat' split
        all_goals omega
    · rw [decide_eq_false qb]
      exact no (fun x => qb x.2)
  · exact evNeg (by rw [decide_eq_true_eq]; exact qa) (no (fun x => qa x.1))

theorem impl_Seen_ev (w h : Int) (c : List Int) (mark far : Int) (hc : c.length ≤ 100000000) : Ev (fun k => impl_Seen.f k w h c mark far) (seenS w h c mark far) := by
  have key := evScan c (fun k (acc : List Int) i => impl_Seen.l0 k mark far acc (c.length : Int) i w h c) (fun acc i t => acc ++ seenFrom w h c mark far i t) (fun acc i => acc.length ≤ i) (fun acc _ => by
      simp only [seenFrom, List.append_nil]
      refine Ev.step (f := fun _ => some acc) (fun k => ?_) (Ev.now _)
      simp only [impl_Seen.l0]
      rw [if_neg (by omega)]) (fun acc i t hi _ ha ih => by
      have st : ∀ k, impl_Seen.l0 (k + 1) mark far acc (c.length : Int) (i : Int) w h c = (impl_IsCell.f k w h c mark).bind fun q => if q = true then ((impl_IsOpen.f k w h c (i : Int)).bind fun o => if o = true then ((impl_Apart.f k w h c mark (i : Int)).bind fun d => if d = far then impl_Seen.l0 k mark far (acc ++ [(i : Int)]) (c.length : Int) ((i + 1 : Nat) : Int) w h c else impl_Seen.l0 k mark far acc (c.length : Int) ((i + 1 : Nat) : Int) w h c) else impl_Seen.l0 k mark far acc (c.length : Int) ((i + 1 : Nat) : Int) w h c) else impl_Seen.l0 k mark far acc (c.length : Int) ((i + 1 : Nat) : Int) w h c := by
        intro k
        simp only [impl_Seen.l0]
        rw [if_pos (by omega), wrapSucc (by omega)]
        simp only [if_pos (show acc.length < 17592186044416 by omega)]
      have no : ¬ (cellOk w h c mark ∧ openOk w h c (i : Int) ∧ apart w h c mark (i : Int) = far) → Ev (fun k => impl_Seen.l0 k mark far acc (c.length : Int) ((i + 1 : Nat) : Int) w h c) (acc ++ seenFrom w h c mark far i (c[i] :: t)) := by
        intro q
        simp only [seenFrom, if_neg q]
        exact ih acc (by omega)
      refine Ev.step st (Ev.bind (impl_IsCell_ev w h c mark) ?_)
      by_cases q0 : cellOk w h c mark
      · refine evPos (decide_eq_true q0) (Ev.bind (impl_IsOpen_ev w h c (i : Int)) ?_)
        by_cases q1 : openOk w h c (i : Int)
        · refine evPos (decide_eq_true q1) (Ev.bind (impl_Apart_ev w h c mark (i : Int)) ?_)
          by_cases q2 : apart w h c mark (i : Int) = far
          · refine evPos q2 ?_
            simp only [seenFrom, if_pos (show cellOk w h c mark ∧ openOk w h c (i : Int) ∧ apart w h c mark (i : Int) = far from ⟨q0, q1, q2⟩)]
            have := ih (acc ++ [(i : Int)]) (by simp; omega)
            rwa [List.append_assoc, List.singleton_append] at this
          · exact evNeg q2 (no (fun x => q2 x.2.2))
        · exact evNeg (by rw [decide_eq_true_eq]; exact q1) (no (fun x => q1 x.2.1))
      · exact evNeg (by rw [decide_eq_true_eq]; exact q0) (no (fun x => q0 x.1)))
    [] (by simp)
  unfold impl_Seen.f seenS
  simpa using key

theorem spec_IsLand_ev (w h : Int) (c : List Int) : Ev (fun k => spec_IsLand.f k w h c) (decide (landOk w h c)) := by
  have no : ∀ (q : ¬ landOk w h c), Ev (fun k => spec_IsLand.j0 k true w h c) (decide (landOk w h c)) := by
    intro q
    rw [decide_eq_false q]
    refine Ev.step (f := fun _ => some false) (fun k => ?_) (Ev.now _)
    simp only [spec_IsLand.j0, if_true]
  unfold spec_IsLand.f
  simp only [l1In_eq, Option.bind_some]
  by_cases c0 : 1 ≤ w ∧ w ≤ 8
  · refine evPos (decide_eq_true c0) ?_
    by_cases c1 : 1 ≤ h ∧ h ≤ 8
    · have sb := sideB c0 c1
      refine evPos (decide_eq_true c1) ?_
      rw [wrapId (n := w * h) (by omega) (by omega)]
      by_cases c2 : (c.length : Int) = w * h
      · rw [show ((c.length : Int) != w * h) = false by simp [c2], show decide (landOk w h c) = inB 0 2 c by rw [Bool.eq_iff_iff, decide_eq_true_eq, inB_iff]; exact ⟨fun x => x.2.2, fun x => ⟨⟨c0, c1⟩, c2, x⟩⟩]
        refine Ev.step (f := fun k => spec_IsLand.l0 k 0 w h c) (fun k => ?_) ?_
        · simp only [spec_IsLand.j0, Bool.false_eq_true, if_false]
        exact evScan c (fun k (_ : Unit) i => spec_IsLand.l0 k i w h c) (fun _ _ t => inB 0 2 t) (fun _ _ => True) (fun _ _ => by
          rw [show inB 0 2 [] = true from rfl]
          refine Ev.step (f := fun _ => some true) (fun k => ?_) (Ev.now _)
          simp only [spec_IsLand.l0]
          rw [if_neg (by omega)]) (fun _ i t hi _ _ ih => by
          have st : ∀ k, spec_IsLand.l0 (k + 1) (i : Int) w h c = if decide (0 ≤ c[i] ∧ c[i] ≤ 2) = true then spec_IsLand.l0 k ((i + 1 : Nat) : Int) w h c else some false := by
            intro k
            simp only [spec_IsLand.l0, l1In_eq, Option.bind_some]
            rw [if_pos (by omega), if_pos (by omega), rdIn hi, wrapSucc (by omega)]
          refine Ev.step st ?_
          by_cases d : 0 ≤ c[i] ∧ c[i] ≤ 2
          · refine evPos (decide_eq_true d) ?_
            rw [inB_yes d]
            exact ih () trivial
          · refine evNeg (by rw [decide_eq_true_eq]; exact d) ?_
            rw [inB_no d]
            exact Ev.now _)
          () trivial
      · rw [show ((c.length : Int) != w * h) = true by simp [c2]]
        exact no (fun x => c2 x.2.1)
    · exact evNeg (by rw [decide_eq_true_eq]; exact c1) (no (fun x => c1 x.1.2))
  · exact evNeg (by rw [decide_eq_true_eq]; exact c0) (no (fun x => c0 x.1.1))
theorem spec_IsCell_ev (w h : Int) (c : List Int) (n : Int) : Ev (fun k => spec_IsCell.f k w h c n) (decide (cellOk w h c n)) := by
  unfold spec_IsCell.f
  refine Ev.bind (spec_IsLand_ev w h c) ?_
  by_cases q : landOk w h c
  · refine evPos (decide_eq_true q) ?_
    have := q.len
    simp only [l1In_eq, Option.bind_some]
    rw [wrapId (n := (c.length : Int) - 1) (by omega) (by omega), show decide (cellOk w h c n) = decide (0 ≤ n ∧ n ≤ (c.length : Int) - 1) by rw [decide_eq_decide]; exact ⟨fun x => ⟨x.2.1, by have := x.2.2; omega⟩, fun x => ⟨q, x.1, by omega⟩⟩]
    exact Ev.now _
  · rw [decide_eq_false (fun x : cellOk w h c n => q x.1)]
    exact evNeg (by rw [decide_eq_true_eq]; exact q) (Ev.now _)

theorem spec_IsOpen_ev (w h : Int) (c : List Int) (n : Int) : Ev (fun k => spec_IsOpen.f k w h c n) (decide (openOk w h c n)) := by
  unfold spec_IsOpen.f
  refine Ev.bind (spec_IsCell_ev w h c n) ?_
  by_cases q : cellOk w h c n
  · refine evPos (decide_eq_true q) (evPos q.2.1 (evPos q.2.2 ?_))
    rw [show decide (openOk w h c n) = (rd c n != 2) by rw [Bool.eq_iff_iff, decide_eq_true_eq, bne_iff_ne]; exact ⟨fun x => x.2, fun x => ⟨q, x⟩⟩]
    exact Ev.now _
  · rw [decide_eq_false (fun x : openOk w h c n => q x.1)]
    exact evNeg (by rw [decide_eq_true_eq]; exact q) (Ev.now _)

theorem spec_Apart_ev (w h : Int) (c : List Int) (a b : Int) : Ev (fun k => spec_Apart.f k w h c a b) (apart w h c a b) := by
  have no : ¬ (cellOk w h c a ∧ cellOk w h c b) → Ev (fun k => spec_Apart.j0 k a b true w h c) (apart w h c a b) := by
    intro q
    unfold apart
    rw [if_neg q]
    refine Ev.step (f := fun _ => some (-1)) (fun k => ?_) (Ev.now _)
    simp only [spec_Apart.j0, if_true]
  have mxs : ∀ x y : Int, spec_Max.f x y = some (if y > x then y else x) := by
    intro x y
    unfold spec_Max.f
    split <;> rfl
  unfold spec_Apart.f
  refine Ev.bind (spec_IsCell_ev w h c a) ?_
  by_cases qa : cellOk w h c a
  · refine evPos (decide_eq_true qa) (Ev.bind (spec_IsCell_ev w h c b) ?_)
    by_cases qb : cellOk w h c b
    · rw [decide_eq_true qb]
      unfold apart
      rw [if_pos ⟨qa, qb⟩]
      have hw := qa.1.1.1
      have hl := qa.1.len
      have ma := modB hw qa.2.1 (by have := qa.2.2; omega)
      have mb := modB hw qb.2.1 (by have := qb.2.2; omega)
      refine Ev.step (f := fun _ => some (absI (a % w - b % w) + absI (a / w - b / w))) (fun k => ?_) (Ev.now _)
      simp only [spec_Apart.j0, Bool.not_true, Bool.false_eq_true, if_false, mxs, Option.bind_some, ma.1, mb.1, ma.2.1, mb.2.1]
      rw [if_neg (show ¬ w = 0 by omega), wrapId (n := a / w) (by omega) (by omega), wrapId (n := b / w) (by omega) (by omega), wrapId (n := a % w - b % w) (by omega) (by omega), wrapId (n := a / w - b / w) (by omega) (by omega), wrapId (n := b % w - a % w) (by omega) (by omega), wrapId (n := b / w - a / w) (by omega) (by omega)]
      have e0 : (if b % w - a % w > a % w - b % w then b % w - a % w else a % w - b % w) = absI (a % w - b % w) := by unfold absI; repeat' split; all_goals omega
      have e1 : (if b / w - a / w > a / w - b / w then b / w - a / w else a / w - b / w) = absI (a / w - b / w) := by unfold absI; repeat' split; all_goals omega
      rw [e0, e1, wrapId]
      · unfold absI
        repeat' split
        all_goals omega
      · unfold absI
        repeat' split
        all_goals omega
    · rw [decide_eq_false qb]
      exact no (fun x => qb x.2)
  · exact evNeg (by rw [decide_eq_true_eq]; exact qa) (no (fun x => qa x.1))

theorem spec_Seen_ev (w h : Int) (c : List Int) (mark far : Int) (hc : c.length ≤ 100000000) : Ev (fun k => spec_Seen.f k w h c mark far) (seenS w h c mark far) := by
  have stop : ∀ (acc : List Int) (i : Int), Ev (fun k => spec_Seen.j1 k mark far acc i false w h c) acc := by
    intro acc i
    refine Ev.step (f := fun _ => some acc) (fun k => ?_) (Ev.now _)
    simp only [spec_Seen.j1, Bool.false_eq_true, if_false]
  have none_ : ¬ cellOk w h c mark → ∀ (t : List Int) (i : Nat), seenFrom w h c mark far i t = [] := by
    intro q t
    induction t with
    | nil => intro i; rfl
    | cons x t ih =>
      intro i
      simp only [seenFrom, if_neg (show ¬ (cellOk w h c mark ∧ openOk w h c (i : Int) ∧ apart w h c mark (i : Int) = far) from fun z => q z.1)]
      exact ih (i + 1)
  have key := evScan c (fun k (acc : List Int) i => spec_Seen.l0 k mark far acc i w h c) (fun acc i t => acc ++ seenFrom w h c mark far i t) (fun acc i => acc.length ≤ i) (fun acc _ => by
      simp only [seenFrom, List.append_nil]
      refine Ev.step (fun k => ?_) (stop acc (c.length : Int))
      simp only [spec_Seen.l0]
      rw [if_neg (by omega)]) (fun acc i t hi _ ha ih => by
      have st : ∀ k, spec_Seen.l0 (k + 1) mark far acc (i : Int) w h c = (spec_IsCell.f k w h c mark).bind fun q => spec_Seen.j1 k mark far acc (i : Int) q w h c := by
        intro k
        simp only [spec_Seen.l0]
        rw [if_pos (by omega)]
      have st1 : ∀ k, spec_Seen.j1 (k + 1) mark far acc (i : Int) true w h c = (spec_IsOpen.f k w h c (i : Int)).bind fun o => if o = true then ((spec_Apart.f k w h c mark (i : Int)).bind fun d => if d = far then spec_Seen.l0 k mark far (acc ++ [(i : Int)]) ((i + 1 : Nat) : Int) w h c else spec_Seen.l0 k mark far acc ((i + 1 : Nat) : Int) w h c) else spec_Seen.l0 k mark far acc ((i + 1 : Nat) : Int) w h c := by
        intro k
        simp only [spec_Seen.j1, if_true]
        rw [wrapSucc (by omega)]
        simp only [if_pos (show acc.length < 17592186044416 by omega)]
      have no : ¬ (cellOk w h c mark ∧ openOk w h c (i : Int) ∧ apart w h c mark (i : Int) = far) → Ev (fun k => spec_Seen.l0 k mark far acc ((i + 1 : Nat) : Int) w h c) (acc ++ seenFrom w h c mark far i (c[i] :: t)) := by
        intro q
        simp only [seenFrom, if_neg q]
        exact ih acc (by omega)
      refine Ev.step st (Ev.bind (spec_IsCell_ev w h c mark) ?_)
      by_cases q0 : cellOk w h c mark
      · rw [decide_eq_true q0]
        refine Ev.step st1 (Ev.bind (spec_IsOpen_ev w h c (i : Int)) ?_)
        by_cases q1 : openOk w h c (i : Int)
        · refine evPos (decide_eq_true q1) (Ev.bind (spec_Apart_ev w h c mark (i : Int)) ?_)
          by_cases q2 : apart w h c mark (i : Int) = far
          · refine evPos q2 ?_
            simp only [seenFrom, if_pos (show cellOk w h c mark ∧ openOk w h c (i : Int) ∧ apart w h c mark (i : Int) = far from ⟨q0, q1, q2⟩)]
            have := ih (acc ++ [(i : Int)]) (by simp; omega)
            rwa [List.append_assoc, List.singleton_append] at this
          · exact evNeg q2 (no (fun x => q2 x.2.2))
        · exact evNeg (by rw [decide_eq_true_eq]; exact q1) (no (fun x => q1 x.2.1))
      · rw [decide_eq_false q0, none_ q0, List.append_nil]
        exact stop acc (i : Int))
    [] (by simp)
  unfold spec_Seen.f seenS
  simpa using key

def FnExactSeen.Claim : Prop := ∀ (a0_0 : Int) (a0_1 : Int) (l0_2 : List (Int)) (a1 : Int) (a2 : Int), (Lit.int .i64 a0_0).wf = true → (Lit.int .i64 a0_1).wf = true → l0_2.length ≤ maxLen → (∀ x ∈ l0_2, (Lit.int .i64 x).wf = true) → (Lit.int .i64 a1).wf = true → (Lit.int .i64 a2).wf = true → ∃ k, laws_FnExactSeen.f k a0_0 a0_1 l0_2 a1 a2 = some true
theorem FnExactSeen : FnExactSeen.Claim := by
  intro w h c mark far _ _ hc _ _ _
  apply Ev.rounds
  unfold laws_FnExactSeen.f
  rw [szLand_ok hc (by omega) (by omega)]
  simp only [Option.bind_some]
  by_cases qc : (c.length : Int) ≤ 1048576
  · rw [if_pos qc]
    refine evNeg (by omega) ?_
    have hl : c.length ≤ 1048576 := by omega
    have hs : (seenS w h c mark far).length ≤ 1048576 := Nat.le_trans (seenFrom_len w h c mark far c 0) hl
    refine Ev.bind (toLand_ev hl) (Ev.bind (spec_Seen_ev w h c mark far (by omega)) (Ev.bind (toLand_ev hl) (Ev.bind (impl_Seen_ev w h c mark far (by omega)) (Ev.bind (eqIntS_same hs) (evPos rfl ?_)))))
    refine Ev.bind (toLand_ev hl) (Ev.bind (eqLand_same hl) (evPos rfl (Ev.bind (markLand_ev hl (by omega) (by omega)) (evNeg (by omega) (Ev.bind (eqIntS_same hs) ?_)))))
    simp only [Bool.not_true]
    refine Ev.step (fun k => rfl) ?_
    simp only [laws_FnExactSeen.j0, Bool.false_eq_true, if_false]
    refine Ev.bind (markIntS_ev hs (by omega) (by omega)) (Ev.bind (heldIntS_ev hs (by omega) (by omega)) (evNeg (by omega) (evPos rfl ?_)))
    refine Ev.bind (toLand_ev hl) (Ev.bind (impl_Seen_ev w h c mark far (by omega)) (Ev.bind (eqIntS_same hs) (evPos rfl (Ev.bind (heldIntS_ev hs (by omega) (by omega)) ?_))))
    exact evNeg (by omega) (evPos rfl (Ev.now _))
  · rw [if_neg qc]
    exact evPos (by omega) (Ev.now _)
end Go.Proofs.Ytkdclkbgejbgjad.Pure
