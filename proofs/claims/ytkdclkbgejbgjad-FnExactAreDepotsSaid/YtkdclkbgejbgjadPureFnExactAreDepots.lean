/- For every land and every list of depots, the program's AreDepots and the reference's give the same answer: the law's Go function answers true. No condition beyond the kinds of the numbers. -/
import Derived.Test.YtkdclkbgejbgjadPFnExactAreDepotsx6
import Derived.Test.YtkdclkbgejbgjadAid
namespace Go.Proofs.Ytkdclkbgejbgjad.Pure
open Go.RowKit Go.Proofs.Ytkdclkbgejbgjad.PFnExactAreDepots Go.Proofs.Ytkdclkbgejbgjad.Aid Go.Proofs.YtkdclkbgejbgjadW.PrintWords Go.Proofs.YtkdclkbgejbgjadW.PrintLast Go.Proofs.YtkdclkbgejbgjadW.PrintMore
set_option linter.unusedVariables false
set_option linter.unusedSimpArgs false
theorem toIntS_ev {l : List Int} (hl : l.length ≤ 1048576) : Ev (fun k => laws_toIntS.f k l) l := by
  have key := evScan l (fun k (acc : List Int) i => laws_toIntS.l0 k l acc i) (fun _ _ _ => l) (fun acc i => acc.length = l.length ∧ acc.take i = l.take i) (fun acc ⟨h0, h1⟩ => by
      refine Ev.step (f := fun _ => some acc) (fun k => ?_) ?_
      · simp only [laws_toIntS.l0]
        rw [if_neg (by omega)]
      · rw [take_whole h0 h1]
        exact Ev.now _) (fun acc i t h ht ⟨h0, h1⟩ ih => by
      refine Ev.step (fun k => ?_) (ih (acc.set i l[i]) ⟨by simpa using h0, take_set_succ h h0 h1⟩)
      simp only [laws_toIntS.l0]
      rw [if_pos (by omega), if_pos (by omega), if_pos (by omega), rdIn h, wrapSucc (by omega), toNatCast])
    (List.replicate l.length 0) ⟨by simp, by simp⟩
  refine Ev.congr (fun k => ?_) key
  simp only [laws_toIntS.f]
  rw [if_pos (by omega), if_pos (by omega), toNatCast]

theorem eqIntS_ev {a b : List Int} (ha : a.length ≤ 1048576) : Ev (fun k => laws_eqIntS.f k a b) (decide (a = b)) := by
  by_cases e : a.length = b.length
  · have key := evScan a (fun k (_ : Unit) i => laws_eqIntS.l0 k a b i) (fun _ i t => decide (t = b.drop i)) (fun _ _ => True) (fun _ _ => by
        refine Ev.step (f := fun _ => some true) (fun k => ?_) ?_
        · simp only [laws_eqIntS.l0]
          rw [if_neg (by omega)]
        · rw [e, List.drop_length]
          exact Ev.now _) (fun _ i t h ht _ ih => by
        have hb : i < b.length := by omega
        have st : ∀ k, laws_eqIntS.l0 (k + 1) a b (i : Int) = if a[i] = b[i] then laws_eqIntS.l0 k a b ((i + 1 : Nat) : Int) else some false := by
          intro k
          simp only [laws_eqIntS.l0]
          rw [if_pos (by omega), if_pos (by omega), if_pos (by omega), rdIn h, rdIn hb, wrapSucc (by omega)]
        refine Ev.step st ?_
        rw [List.drop_eq_getElem_cons hb]
        by_cases c : a[i] = b[i]
        · refine evPos c ?_
          rw [show decide (a[i] :: t = b[i] :: b.drop (i + 1)) = decide (t = b.drop (i + 1)) by rw [decide_eq_decide, List.cons.injEq, and_iff_right c]]
          exact ih () trivial
        · refine evNeg c ?_
          rw [show decide (a[i] :: t = b[i] :: b.drop (i + 1)) = false by rw [decide_eq_false_iff_not, List.cons.injEq]; exact fun e => c e.1]
          exact Ev.now _)
      () trivial
    refine Ev.congr (fun k => ?_) key
    simp only [laws_eqIntS.f]
    rw [if_pos (by omega)]
  · have ne : ¬ a = b := fun h => e (by rw [h])
    refine Ev.congr (f := fun _ => some (decide (a = b))) (fun k => ?_) (Ev.now _)
    simp only [laws_eqIntS.f]
    rw [if_neg (by omega), decide_eq_false ne]
theorem eqIntS_same {a : List Int} (ha : a.length ≤ 1048576) : Ev (fun k => laws_eqIntS.f k a a) true := by
  have := eqIntS_ev (a := a) (b := a) ha
  rwa [decide_eq_true rfl] at this

theorem szIntS_ok {l : List Int} {q : Int} (hl : l.length ≤ maxLen) (h0 : 0 ≤ q) (h1 : q ≤ 1048576) : laws_szIntS.f l q = some (if (l.length : Int) ≤ q then q - (l.length : Int) else -1) := by
  unfold laws_szIntS.f
  unfold maxLen at hl
  rw [wrapId (n := q - (l.length : Int)) (by omega) (by omega)]
  by_cases c : (l.length : Int) ≤ q
  · rw [if_neg (by omega), if_pos c]
  · rw [if_pos (by omega), if_neg c]
theorem szLand_ok {w h : Int} {l : List Int} {q : Int} (hl : l.length ≤ maxLen) (h0 : 0 ≤ q) (h1 : q ≤ 1048576) : laws_szLand.f w h l q = some (if (l.length : Int) ≤ q then q - (l.length : Int) else -1) := by
  unfold laws_szLand.f
  rw [szIntS_ok hl h0 h1, Option.bind_some]
  by_cases c : (l.length : Int) ≤ q
  · rw [if_pos c, if_neg (by omega)]
  · rw [if_neg c, if_pos (by omega)]
theorem toLand_ev {w h : Int} {l : List Int} (hl : l.length ≤ 1048576) : Ev (fun k => laws_toLand.f k w h l) (w, h, l) := by
  unfold laws_toLand.f
  exact Ev.bind (toIntS_ev hl) (Ev.now _)
theorem eqLand_same {w h : Int} {l : List Int} (hl : l.length ≤ 1048576) : Ev (fun k => laws_eqLand.f k w h l w h l) true := by
  unfold laws_eqLand.f
  exact evPos rfl (evPos rfl (Ev.bind (eqIntS_same hl) (evPos rfl (Ev.now _))))

theorem szDepotS_ok {l : List S70} {q : Int} (hl : l.length ≤ maxLen) (h0 : 0 ≤ q) (h1 : q ≤ 1048576) : laws_szDepotS.f l q = some (if (l.length : Int) ≤ q then q - (l.length : Int) else -1) := by
  unfold laws_szDepotS.f
  unfold maxLen at hl
  rw [wrapId (n := q - (l.length : Int)) (by omega) (by omega)]
  by_cases c : (l.length : Int) ≤ q
  · rw [if_neg (by omega), if_pos c]
  · rw [if_pos (by omega), if_neg c]

def dep (x : S70) : S66 := ⟨x.f0, x.f1⟩
theorem rdD {xs : List S66} {i : Nat} (h : i < xs.length) : rd_T66 xs (i : Int) = xs[i] := by
  unfold rd_T66
  rw [Int.toNat_natCast, getD_lt h]
theorem rdLD {xs : List S70} {i : Nat} (h : i < xs.length) : rd_T70 xs (i : Int) = xs[i] := by
  unfold rd_T70
  rw [Int.toNat_natCast, getD_lt h]
theorem toDepotS_ev {l : List S70} (hl : l.length ≤ 1048576) : Ev (fun k => laws_toDepotS.f k l) (l.map dep) := by
  have key := evScan l (fun k (acc : List S66) i => laws_toDepotS.l0 k l acc i) (fun _ _ _ => l.map dep) (fun acc i => acc.length = (l.map dep).length ∧ acc.take i = (l.map dep).take i) (fun acc ⟨h0, h1⟩ => by
      refine Ev.step (f := fun _ => some acc) (fun k => ?_) ?_
      · simp only [laws_toDepotS.l0]
        rw [if_neg (by omega)]
      · rw [take_whole h0 (by rw [List.length_map]; exact h1)]
        exact Ev.now _) (fun acc i t h ht ⟨h0, h1⟩ ih => by
      have hm : i < (l.map dep).length := by rw [List.length_map]; exact h
      have hs := take_set_succ hm h0 h1
      rw [List.length_map] at h0
      refine Ev.step (fun k => ?_) (ih (acc.set i (l.map dep)[i]) ⟨by simpa using h0, hs⟩)
      simp only [laws_toDepotS.l0, laws_toDepot.f, Option.bind_some]
      rw [if_pos (by omega), if_pos (by omega), if_pos (by omega), rdLD h, wrapSucc (by omega), toNatCast, List.getElem_map]
      rfl)
    (List.replicate l.length z66) ⟨by simp, by simp⟩
  refine Ev.congr (fun k => ?_) key
  simp only [laws_toDepotS.f]
  rw [if_pos (by omega), if_pos (by omega), toNatCast]

theorem eqDepotS_same {a : List S66} (ha : a.length ≤ 2000000) : Ev (fun k => laws_eqDepotS.f k a a) true := by
  have key := evScan a (fun k (_ : Unit) i => laws_eqDepotS.l0 k a a i) (fun _ _ _ => true) (fun _ _ => True) (fun _ _ => by
      refine Ev.step (f := fun _ => some true) (fun k => ?_) (Ev.now _)
      simp only [laws_eqDepotS.l0]
      rw [if_neg (by omega)]) (fun _ i t h _ _ ih => by
      refine Ev.step (fun k => ?_) (ih () trivial)
      simp only [laws_eqDepotS.l0, laws_eqDepot.f, if_true, Option.bind_some]
      rw [if_pos (by omega), if_pos (by omega), if_pos (by omega), wrapSucc (by omega)])
    () trivial
  refine Ev.congr (fun k => ?_) key
  simp only [laws_eqDepotS.f, if_true]

theorem l1In_eq (a b c : Int) : spec_l1In.f a b c = some (decide (b ≤ a ∧ a ≤ c)) := by
  unfold spec_l1In.f
  by_cases h : b ≤ a
  · rw [if_pos h]
    simp [h]
  · rw [if_neg h]
    simp [h]
theorem inRange_eq (a b c : Int) : impl_InRange.f a b c = some (decide (b ≤ a ∧ a ≤ c)) := by
  unfold impl_InRange.f
  by_cases h : b ≤ a
  · rw [if_pos h]
    simp [h]
  · rw [if_neg h]
    simp [h]

def inB (lo hi : Int) (l : List Int) : Bool := l.all (fun x => decide (lo ≤ x ∧ x ≤ hi))
theorem inB_iff {lo hi : Int} {l : List Int} : inB lo hi l = true ↔ ∀ x ∈ l, lo ≤ x ∧ x ≤ hi := by
  unfold inB
  simp only [List.all_eq_true, decide_eq_true_eq]
theorem inB_yes {lo hi x : Int} {t : List Int} (d : lo ≤ x ∧ x ≤ hi) : inB lo hi (x :: t) = inB lo hi t := by
  simp only [inB, List.all_cons, d, and_self, decide_true, Bool.true_and]
theorem inB_no {lo hi x : Int} {t : List Int} (d : ¬ (lo ≤ x ∧ x ≤ hi)) : inB lo hi (x :: t) = false := by
  simp only [inB, List.all_cons, d, decide_false, Bool.false_and]
/-- A land: its sides, its cells. -/
def landOk (w h : Int) (c : List Int) : Prop := ((1 ≤ w ∧ w ≤ 8) ∧ (1 ≤ h ∧ h ≤ 8)) ∧ (c.length : Int) = w * h ∧ ∀ x ∈ c, 0 ≤ x ∧ x ≤ 2
instance (w h : Int) (c : List Int) : Decidable (landOk w h c) := inferInstanceAs (Decidable (_ ∧ _))
def cellOk (w h : Int) (c : List Int) (n : Int) : Prop := landOk w h c ∧ 0 ≤ n ∧ n < (c.length : Int)
instance (w h : Int) (c : List Int) (n : Int) : Decidable (cellOk w h c n) := inferInstanceAs (Decidable (_ ∧ _))
def openOk (w h : Int) (c : List Int) (n : Int) : Prop := cellOk w h c n ∧ rd c n ≠ 2
instance (w h : Int) (c : List Int) (n : Int) : Decidable (openOk w h c n) := inferInstanceAs (Decidable (_ ∧ _))
theorem sideB {w h : Int} (hw : 1 ≤ w ∧ w ≤ 8) (hh : 1 ≤ h ∧ h ≤ 8) : 1 ≤ w * h ∧ w * h ≤ 64 := by
  have h0 : 1 * 1 ≤ w * h := Int.mul_le_mul hw.1 hh.1 (by omega) (by omega)
  have h1 : w * h ≤ 8 * 8 := Int.mul_le_mul hw.2 hh.2 (by omega) (by omega)
  omega
theorem landOk.len {w h : Int} {c : List Int} (x : landOk w h c) : 1 ≤ c.length ∧ c.length ≤ 64 := by
  have := sideB x.1.1 x.1.2
  have := x.2.1
  omega

theorem allIn_ev {l : List Int} (lo hi : Int) (hl : l.length ≤ 100000000) : Ev (fun k => impl_allIn.f k l lo hi) (inB lo hi l) := by
  have key := evScan l (fun k (_ : Unit) i => impl_allIn.l0 k lo hi l (l.length : Int) i) (fun _ _ t => inB lo hi t) (fun _ _ => True) (fun _ _ => by
      rw [show inB lo hi [] = true from rfl]
      refine Ev.step (f := fun _ => some true) (fun k => ?_) (Ev.now _)
      simp only [impl_allIn.l0]
      rw [if_neg (by omega)]) (fun _ i t h _ _ ih => by
      have st : ∀ k, impl_allIn.l0 (k + 1) lo hi l (l.length : Int) (i : Int) = if decide (lo ≤ l[i] ∧ l[i] ≤ hi) = true then impl_allIn.l0 k lo hi l (l.length : Int) ((i + 1 : Nat) : Int) else some false := by
        intro k
        simp only [impl_allIn.l0, inRange_eq, Option.bind_some]
        rw [if_pos (by omega), if_pos (by omega), if_pos (by omega), rdIn h, wrapSucc (by omega)]
      refine Ev.step st ?_
      by_cases d : lo ≤ l[i] ∧ l[i] ≤ hi
      · refine evPos (decide_eq_true d) ?_
        rw [inB_yes d]
        exact ih () trivial
      · refine evNeg (by rw [decide_eq_true_eq]; exact d) ?_
        rw [inB_no d]
        exact Ev.now _)
    () trivial
  unfold impl_allIn.f
  exact key
theorem impl_IsLand_ev (w h : Int) (c : List Int) : Ev (fun k => impl_IsLand.f k w h c) (decide (landOk w h c)) := by
  unfold impl_IsLand.f
  simp only [inRange_eq, Option.bind_some]
  by_cases c0 : 1 ≤ w ∧ w ≤ 8
  · refine evPos (decide_eq_true c0) ?_
    by_cases c1 : 1 ≤ h ∧ h ≤ 8
    · have sb := sideB c0 c1
      refine evPos (decide_eq_true c1) ?_
      rw [wrapId (n := w * h) (by omega) (by omega)]
      by_cases c2 : (c.length : Int) = w * h
      · refine evPos c2 (Ev.bind (allIn_ev 0 2 (by omega)) ?_)
        rw [show decide (landOk w h c) = inB 0 2 c by rw [Bool.eq_iff_iff, decide_eq_true_eq, inB_iff]; exact ⟨fun x => x.2.2, fun x => ⟨⟨c0, c1⟩, c2, x⟩⟩]
        exact Ev.now _
      · rw [decide_eq_false (fun x : landOk w h c => c2 x.2.1)]
        exact evNeg c2 (Ev.now _)
    · rw [decide_eq_false (fun x : landOk w h c => c1 x.1.2)]
      exact evNeg (by rw [decide_eq_true_eq]; exact c1) (Ev.now _)
  · rw [decide_eq_false (fun x : landOk w h c => c0 x.1.1)]
    exact evNeg (by rw [decide_eq_true_eq]; exact c0) (Ev.now _)
theorem impl_IsCell_ev (w h : Int) (c : List Int) (n : Int) : Ev (fun k => impl_IsCell.f k w h c n) (decide (cellOk w h c n)) := by
  unfold impl_IsCell.f
  refine Ev.bind (impl_IsLand_ev w h c) ?_
  by_cases q : landOk w h c
  · refine evPos (decide_eq_true q) ?_
    have := q.len
    simp only [inRange_eq, Option.bind_some]
    rw [wrapId (n := (c.length : Int) - 1) (by omega) (by omega), show decide (cellOk w h c n) = decide (0 ≤ n ∧ n ≤ (c.length : Int) - 1) by rw [decide_eq_decide]; exact ⟨fun x => ⟨x.2.1, by have := x.2.2; omega⟩, fun x => ⟨q, x.1, by omega⟩⟩]
    exact Ev.now _
  · rw [decide_eq_false (fun x : cellOk w h c n => q x.1)]
    exact evNeg (by rw [decide_eq_true_eq]; exact q) (Ev.now _)

theorem impl_IsOpen_ev (w h : Int) (c : List Int) (n : Int) : Ev (fun k => impl_IsOpen.f k w h c n) (decide (openOk w h c n)) := by
  unfold impl_IsOpen.f
  refine Ev.bind (impl_IsCell_ev w h c n) ?_
  by_cases q : cellOk w h c n
  · refine evPos (decide_eq_true q) (evPos q.2.1 (evPos q.2.2 ?_))
    rw [show decide (openOk w h c n) = (rd c n != 2) by rw [Bool.eq_iff_iff, decide_eq_true_eq, bne_iff_ne]; exact ⟨fun x => x.2, fun x => ⟨q, x⟩⟩]
    exact Ev.now _
  · rw [decide_eq_false (fun x : openOk w h c n => q x.1)]
    exact evNeg (by rw [decide_eq_true_eq]; exact q) (Ev.now _)

def okD (w h : Int) (c : List Int) (d : S66) : Bool := decide (openOk w h c d.f0) && decide (1 ≤ d.f1 ∧ d.f1 ≤ 10000)
/-- Depots of a land, behind one at the cell p. -/
def depsFrom (w h : Int) (c : List Int) : Int → List S66 → Bool
  | _, [] => true
  | p, d :: t => okD w h c d && (decide (p < d.f0) && depsFrom w h c d.f0 t)
def areDeps (w h : Int) (c : List Int) (l : List S66) : Bool := depsFrom w h c (-1) l && (decide (landOk w h c) && decide ((l.length : Int) ≤ 20))
def prevCell (l : List S66) (i : Nat) : Int := if i = 0 then -1 else (l.getD (i - 1) z66).f0
theorem prevCell_succ {l : List S66} {i : Nat} (h : i < l.length) : prevCell l (i + 1) = l[i].f0 := by
  unfold prevCell
  rw [if_neg (by omega), Nat.add_sub_cancel, getD_lt h]
theorem prevCell_pos {l : List S66} {i : Nat} (hl : l.length ≤ 100000000) (h : i ≤ l.length) (h0 : 0 < i) : prevCell l i = (rd_T66 l (wrap64 ((i : Int) - 1))).f0 := by
  rw [wrapId (n := (i : Int) - 1) (by omega) (by omega), show ((i : Int) - 1) = ((i - 1 : Nat) : Int) by omega, rdD (by omega)]
  unfold prevCell
  rw [if_neg (by omega), getD_lt (by omega)]
theorem okD_cell {w h : Int} {c : List Int} {d : S66} (e : okD w h c d = true) : 0 ≤ d.f0 := by
  unfold okD at e
  simp only [Bool.and_eq_true, decide_eq_true_eq] at e
  exact e.1.1.2.1

theorem impl_AreDepots_ev {l : List S66} (w h : Int) (c : List Int) (hl : l.length ≤ 100000000) : Ev (fun k => impl_AreDepots.f k w h c l) (areDeps w h c l) := by
  have key := evScan l (fun k (_ : Unit) i => impl_AreDepots.l0 k l l (l.length : Int) i w h c) (fun _ i t => depsFrom w h c (prevCell l i) t && (decide (landOk w h c) && decide ((l.length : Int) ≤ 20))) (fun _ _ => True) (fun _ _ => by
      refine Ev.step (f := fun k => (impl_IsLand.f k w h c).bind fun t => if t = true then some (decide ((l.length : Int) ≤ 20)) else some false) (fun k => ?_) (Ev.bind (impl_IsLand_ev w h c) ?_)
      · simp only [impl_AreDepots.l0]
        rw [if_neg (by omega)]
      · simp only [depsFrom, Bool.true_and]
        by_cases q : landOk w h c
        · rw [decide_eq_true q, Bool.true_and]
          exact evPos rfl (Ev.now _)
        · rw [decide_eq_false q, Bool.false_and]
          exact evNeg (by decide) (Ev.now _)) (fun _ i t hi ht _ ih => by
      have ih := ih () trivial
      rw [prevCell_succ hi] at ih
      have bad : ∀ (q : ¬ (okD w h c l[i] = true ∧ prevCell l i < l[i].f0)), Ev (fun _ => some false) (depsFrom w h c (prevCell l i) (l[i] :: t) && (decide (landOk w h c) && decide ((l.length : Int) ≤ 20))) := by
        intro q
        have e : depsFrom w h c (prevCell l i) (l[i] :: t) = false := by
          simp only [depsFrom]
          by_cases d : okD w h c l[i] = true
          · have n : ¬ prevCell l i < l[i].f0 := fun x => q ⟨d, x⟩
            simp [n]
          · simp [d]
        rw [e, Bool.false_and]
        exact Ev.now _
      have st : ∀ k, impl_AreDepots.l0 (k + 1) l l (l.length : Int) (i : Int) w h c = (impl_IsOpen.f k w h c l[i].f0).bind fun o => if o = true then (if prevCell l i < l[i].f0 ∨ i = 0 then (if decide (1 ≤ l[i].f1 ∧ l[i].f1 ≤ 10000) = true then impl_AreDepots.l0 k l l (l.length : Int) ((i + 1 : Nat) : Int) w h c else some false) else some false) else some false := by
        intro k
        simp only [impl_AreDepots.l0, inRange_eq, Option.bind_some]
        rw [if_pos (by omega), if_pos (by omega), if_pos (by omega), rdD hi, wrapSucc (by omega)]
        by_cases c1 : 0 < i
        · rw [← prevCell_pos hl (by omega) c1]
          have w1 : wrap64 ((i : Int) - 1) = ((i - 1 : Nat) : Int) := by rw [wrapId (n := (i : Int) - 1) (by omega) (by omega)]; omega
          rw [w1]
          have g1 : (i : Int) > 0 := by omega
          have g2 : (0 : Int) ≤ ((i - 1 : Nat) : Int) := by omega
          have g3 : ((i - 1 : Nat) : Int) < (l.length : Int) := by omega
          have g4 : ¬ i = 0 := by omega
          simp only [if_pos g1, if_pos g2, if_pos g3, g4, or_false]
          by_cases c2 : l[i].f0 ≤ prevCell l i
          · simp only [if_pos c2, if_neg (show ¬ prevCell l i < l[i].f0 by omega)]
          · simp only [if_neg c2, if_pos (show prevCell l i < l[i].f0 by omega)]
        · have g1 : ¬ ((i : Int) > 0) := by omega
          have g4 : i = 0 := by omega
          simp only [if_neg g1, if_pos (show prevCell l i < l[i].f0 ∨ i = 0 from .inr g4)]
      refine Ev.step st (Ev.bind (impl_IsOpen_ev w h c l[i].f0) ?_)
      by_cases q0 : openOk w h c l[i].f0
      · refine evPos (decide_eq_true q0) ?_
        by_cases q1 : prevCell l i < l[i].f0 ∨ i = 0
        · refine evPos q1 ?_
          have lt : prevCell l i < l[i].f0 := by
            rcases q1 with x | x
            · exact x
            · unfold prevCell
              rw [if_pos x]
              have := q0.1.2.1
              omega
          by_cases q2 : 1 ≤ l[i].f1 ∧ l[i].f1 ≤ 10000
          · refine evPos (decide_eq_true q2) ?_
            have ok : okD w h c l[i] = true := by unfold okD; rw [decide_eq_true q0, decide_eq_true q2]; rfl
            simp only [depsFrom, ok, lt, decide_true, Bool.true_and]
            exact ih
          · refine evNeg (by rw [decide_eq_true_eq]; exact q2) (bad ?_)
            rintro ⟨x, _⟩
            unfold okD at x
            simp only [Bool.and_eq_true, decide_eq_true_eq] at x
            exact q2 x.2
        · exact evNeg q1 (bad (fun x => q1 (.inl x.2)))
      · refine evNeg (by rw [decide_eq_true_eq]; exact q0) (bad ?_)
        rintro ⟨x, _⟩
        unfold okD at x
        simp only [Bool.and_eq_true, decide_eq_true_eq] at x
        exact q0 x.1)
    () trivial
  unfold impl_AreDepots.f
  exact key

theorem spec_IsLand_ev (w h : Int) (c : List Int) : Ev (fun k => spec_IsLand.f k w h c) (decide (landOk w h c)) := by
  have no : ∀ (q : ¬ landOk w h c), Ev (fun k => spec_IsLand.j0 k true w h c) (decide (landOk w h c)) := by
    intro q
    rw [decide_eq_false q]
    refine Ev.step (f := fun _ => some false) (fun k => ?_) (Ev.now _)
    simp only [spec_IsLand.j0, if_true]
  unfold spec_IsLand.f
  simp only [l1In_eq, Option.bind_some]
  by_cases c0 : 1 ≤ w ∧ w ≤ 8
  · refine evPos (decide_eq_true c0) ?_
    by_cases c1 : 1 ≤ h ∧ h ≤ 8
    · have sb := sideB c0 c1
      refine evPos (decide_eq_true c1) ?_
      rw [wrapId (n := w * h) (by omega) (by omega)]
      by_cases c2 : (c.length : Int) = w * h
      · rw [show ((c.length : Int) != w * h) = false by simp [c2], show decide (landOk w h c) = inB 0 2 c by rw [Bool.eq_iff_iff, decide_eq_true_eq, inB_iff]; exact ⟨fun x => x.2.2, fun x => ⟨⟨c0, c1⟩, c2, x⟩⟩]
        refine Ev.step (f := fun k => spec_IsLand.l0 k 0 w h c) (fun k => ?_) ?_
        · simp only [spec_IsLand.j0, Bool.false_eq_true, if_false]
        exact evScan c (fun k (_ : Unit) i => spec_IsLand.l0 k i w h c) (fun _ _ t => inB 0 2 t) (fun _ _ => True) (fun _ _ => by
          rw [show inB 0 2 [] = true from rfl]
          refine Ev.step (f := fun _ => some true) (fun k => ?_) (Ev.now _)
          simp only [spec_IsLand.l0]
          rw [if_neg (by omega)]) (fun _ i t hi _ _ ih => by
          have st : ∀ k, spec_IsLand.l0 (k + 1) (i : Int) w h c = if decide (0 ≤ c[i] ∧ c[i] ≤ 2) = true then spec_IsLand.l0 k ((i + 1 : Nat) : Int) w h c else some false := by
            intro k
            simp only [spec_IsLand.l0, l1In_eq, Option.bind_some]
            rw [if_pos (by omega), if_pos (by omega), rdIn hi, wrapSucc (by omega)]
          refine Ev.step st ?_
          by_cases d : 0 ≤ c[i] ∧ c[i] ≤ 2
          · refine evPos (decide_eq_true d) ?_
            rw [inB_yes d]
            exact ih () trivial
          · refine evNeg (by rw [decide_eq_true_eq]; exact d) ?_
            rw [inB_no d]
            exact Ev.now _)
          () trivial
      · rw [show ((c.length : Int) != w * h) = true by simp [c2]]
        exact no (fun x => c2 x.2.1)
    · exact evNeg (by rw [decide_eq_true_eq]; exact c1) (no (fun x => c1 x.1.2))
  · exact evNeg (by rw [decide_eq_true_eq]; exact c0) (no (fun x => c0 x.1.1))
theorem spec_IsCell_ev (w h : Int) (c : List Int) (n : Int) : Ev (fun k => spec_IsCell.f k w h c n) (decide (cellOk w h c n)) := by
  unfold spec_IsCell.f
  refine Ev.bind (spec_IsLand_ev w h c) ?_
  by_cases q : landOk w h c
  · refine evPos (decide_eq_true q) ?_
    have := q.len
    simp only [l1In_eq, Option.bind_some]
    rw [wrapId (n := (c.length : Int) - 1) (by omega) (by omega), show decide (cellOk w h c n) = decide (0 ≤ n ∧ n ≤ (c.length : Int) - 1) by rw [decide_eq_decide]; exact ⟨fun x => ⟨x.2.1, by have := x.2.2; omega⟩, fun x => ⟨q, x.1, by omega⟩⟩]
    exact Ev.now _
  · rw [decide_eq_false (fun x : cellOk w h c n => q x.1)]
    exact evNeg (by rw [decide_eq_true_eq]; exact q) (Ev.now _)

theorem spec_IsOpen_ev (w h : Int) (c : List Int) (n : Int) : Ev (fun k => spec_IsOpen.f k w h c n) (decide (openOk w h c n)) := by
  unfold spec_IsOpen.f
  refine Ev.bind (spec_IsCell_ev w h c n) ?_
  by_cases q : cellOk w h c n
  · refine evPos (decide_eq_true q) (evPos q.2.1 (evPos q.2.2 ?_))
    rw [show decide (openOk w h c n) = (rd c n != 2) by rw [Bool.eq_iff_iff, decide_eq_true_eq, bne_iff_ne]; exact ⟨fun x => x.2, fun x => ⟨q, x⟩⟩]
    exact Ev.now _
  · rw [decide_eq_false (fun x : openOk w h c n => q x.1)]
    exact evNeg (by rw [decide_eq_true_eq]; exact q) (Ev.now _)

theorem spec_AreDepots_ev {l : List S66} (w h : Int) (c : List Int) (hl : l.length ≤ 100000000) : Ev (fun k => spec_AreDepots.f k w h c l) (areDeps w h c l) := by
  have key := evScan l (fun k (_ : Unit) i => spec_AreDepots.l0 k l i w h c) (fun _ i t => depsFrom w h c (prevCell l i) t && (decide (landOk w h c) && decide ((l.length : Int) ≤ 20))) (fun _ _ => True) (fun _ _ => by
      refine Ev.step (f := fun k => (spec_IsLand.f k w h c).bind fun t => if t = true then some (decide ((l.length : Int) ≤ 20)) else some false) (fun k => ?_) (Ev.bind (spec_IsLand_ev w h c) ?_)
      · simp only [spec_AreDepots.l0]
        rw [if_neg (by omega)]
      · simp only [depsFrom, Bool.true_and]
        by_cases q : landOk w h c
        · rw [decide_eq_true q, Bool.true_and]
          exact evPos rfl (Ev.now _)
        · rw [decide_eq_false q, Bool.false_and]
          exact evNeg (by decide) (Ev.now _)) (fun _ i t hi ht _ ih => by
      have ih := ih () trivial
      rw [prevCell_succ hi] at ih
      have bad : ∀ (q : ¬ (okD w h c l[i] = true ∧ prevCell l i < l[i].f0)), Ev (fun _ => some false) (depsFrom w h c (prevCell l i) (l[i] :: t) && (decide (landOk w h c) && decide ((l.length : Int) ≤ 20))) := by
        intro q
        have e : depsFrom w h c (prevCell l i) (l[i] :: t) = false := by
          simp only [depsFrom]
          by_cases d : okD w h c l[i] = true
          · have n : ¬ prevCell l i < l[i].f0 := fun x => q ⟨d, x⟩
            simp [n]
          · simp [d]
        rw [e, Bool.false_and]
        exact Ev.now _
      have st : ∀ k, spec_AreDepots.l0 (k + 1) l (i : Int) w h c = (spec_IsOpen.f k w h c l[i].f0).bind fun o => if o = true then (if decide (1 ≤ l[i].f1 ∧ l[i].f1 ≤ 10000) = true then (if prevCell l i < l[i].f0 ∨ i = 0 then spec_AreDepots.l0 k l ((i + 1 : Nat) : Int) w h c else some false) else some false) else some false := by
        intro k
        simp only [spec_AreDepots.l0, l1In_eq, Option.bind_some]
        rw [if_pos (by omega), if_pos (by omega), rdD hi, wrapSucc (by omega)]
        by_cases c1 : 0 < i
        · rw [← prevCell_pos hl (by omega) c1]
          have w1 : wrap64 ((i : Int) - 1) = ((i - 1 : Nat) : Int) := by rw [wrapId (n := (i : Int) - 1) (by omega) (by omega)]; omega
          rw [w1]
          have g1 : (i : Int) > 0 := by omega
          have g2 : (0 : Int) ≤ ((i - 1 : Nat) : Int) := by omega
          have g3 : ((i - 1 : Nat) : Int) < (l.length : Int) := by omega
          have g4 : ¬ i = 0 := by omega
          simp only [if_pos g1, if_pos g2, if_pos g3, g4, or_false]
          by_cases c2 : prevCell l i ≥ l[i].f0
          · simp only [if_pos c2, if_neg (show ¬ prevCell l i < l[i].f0 by omega)]
          · simp only [if_neg c2, if_pos (show prevCell l i < l[i].f0 by omega)]
        · have g1 : ¬ ((i : Int) > 0) := by omega
          have g4 : i = 0 := by omega
          simp only [if_neg g1, if_pos (show prevCell l i < l[i].f0 ∨ i = 0 from .inr g4)]
      refine Ev.step st (Ev.bind (spec_IsOpen_ev w h c l[i].f0) ?_)
      by_cases q0 : openOk w h c l[i].f0
      · refine evPos (decide_eq_true q0) ?_
        by_cases q2 : 1 ≤ l[i].f1 ∧ l[i].f1 ≤ 10000
        · refine evPos (decide_eq_true q2) ?_
          by_cases q1 : prevCell l i < l[i].f0 ∨ i = 0
          · refine evPos q1 ?_
            have lt : prevCell l i < l[i].f0 := by
              rcases q1 with x | x
              · exact x
              · unfold prevCell
                rw [if_pos x]
                have := q0.1.2.1
                omega
            have ok : okD w h c l[i] = true := by unfold okD; rw [decide_eq_true q0, decide_eq_true q2]; rfl
            simp only [depsFrom, ok, lt, decide_true, Bool.true_and]
            exact ih
          · exact evNeg q1 (bad (fun x => q1 (.inl x.2)))
        · refine evNeg (by rw [decide_eq_true_eq]; exact q2) (bad ?_)
          rintro ⟨x, _⟩
          unfold okD at x
          simp only [Bool.and_eq_true, decide_eq_true_eq] at x
          exact q2 x.2
      · refine evNeg (by rw [decide_eq_true_eq]; exact q0) (bad ?_)
        rintro ⟨x, _⟩
        unfold okD at x
        simp only [Bool.and_eq_true, decide_eq_true_eq] at x
        exact q0 x.1)
    () trivial
  unfold spec_AreDepots.f
  exact key

def okS70 (x : S70) : Prop := (Lit.int .i64 x.f0).wf = true ∧ (Lit.int .i64 x.f1).wf = true
def FnExactAreDepots.Claim : Prop := ∀ (a0_0 : Int) (a0_1 : Int) (l0_2 : List (Int)) (l1 : List (S70)), (Lit.int .i64 a0_0).wf = true → (Lit.int .i64 a0_1).wf = true → l0_2.length ≤ maxLen → (∀ x ∈ l0_2, (Lit.int .i64 x).wf = true) → l1.length ≤ maxLen → (∀ x ∈ l1, okS70 x) → ∃ k, laws_FnExactAreDepots.f k a0_0 a0_1 l0_2 l1 = some true
theorem FnExactAreDepots : FnExactAreDepots.Claim := by
  intro w h c l _ _ hc _ hm _
  apply Ev.rounds
  unfold laws_FnExactAreDepots.f
  rw [szLand_ok hc (by omega) (by omega)]
  simp only [Option.bind_some]
  by_cases qc : (c.length : Int) ≤ 1048576
  · rw [if_pos qc]
    refine evNeg (by omega) ?_
    rw [szDepotS_ok hm (by omega) (by omega)]
    simp only [Option.bind_some]
    by_cases ql : (l.length : Int) ≤ 1048576 - (c.length : Int)
    · rw [if_pos ql]
      refine evNeg (by omega) ?_
      have hcl : c.length ≤ 1048576 := by omega
      have hl : l.length ≤ 1048576 := by omega
      have hl' : (l.map dep).length ≤ 1048576 := by rw [List.length_map]; exact hl
      refine Ev.bind (toLand_ev hcl) (Ev.bind (toDepotS_ev hl) (Ev.bind (spec_AreDepots_ev w h c (by omega)) (Ev.bind (toLand_ev hcl) (Ev.bind (toDepotS_ev hl) (Ev.bind (impl_AreDepots_ev w h c (by omega)) ?_)))))
      simp only [bne_self_eq_false, Bool.false_eq_true, if_false]
      exact Ev.bind (toLand_ev hcl) (Ev.bind (eqLand_same hcl) (evPos rfl (Ev.bind (toDepotS_ev hl) (Ev.bind (eqDepotS_same (by omega)) (evPos rfl (Ev.now _))))))
    · rw [if_neg ql]
      exact evPos (by omega) (Ev.now _)
  · rw [if_neg qc]
    exact evPos (by omega) (Ev.now _)
end Go.Proofs.Ytkdclkbgejbgjad.Pure
