/- For every land, list of depots, cell and amount, the program's Lay and the reference's give the same list, new memory that nothing else changes, and the same bool: the law's Go function answers true. No condition beyond the kinds of the numbers. -/
import Derived.Test.YtdgpnmbmnnmdcaaPFnExactLayx10
import Derived.Test.YtdgpnmbmnnmdcaaAid
namespace Go.Proofs.Ytdgpnmbmnnmdcaa.Pure
open Go.RowKit Go.Proofs.Ytdgpnmbmnnmdcaa.PFnExactLay Go.Proofs.Ytdgpnmbmnnmdcaa.Aid Go.Proofs.YtdgpnmbmnnmdcaaW.PrintWords Go.Proofs.YtdgpnmbmnnmdcaaW.PrintLast Go.Proofs.YtdgpnmbmnnmdcaaW.PrintMore
set_option linter.unusedVariables false
set_option linter.unusedSimpArgs false
theorem toIntS_ev {l : List Int} (hl : l.length ≤ 1048576) : Ev (fun k => laws_toIntS.f k l) l := by
  have key := evScan l (fun k (acc : List Int) i => laws_toIntS.l0 k l acc i) (fun _ _ _ => l) (fun acc i => acc.length = l.length ∧ acc.take i = l.take i) (fun acc ⟨h0, h1⟩ => by
      refine Ev.step (f := fun _ => some acc) (fun k => ?_) ?_
      · simp only [laws_toIntS.l0]
        rw [if_neg (by omega)]
      · rw [take_whole h0 h1]
        exact Ev.now _) (fun acc i t h ht ⟨h0, h1⟩ ih => by
      refine Ev.step (fun k => ?_) (ih (acc.set i l[i]) ⟨by simpa using h0, take_set_succ h h0 h1⟩)
      simp only [laws_toIntS.l0]
      rw [if_pos (by omega), if_pos (by omega), if_pos (by omega), rdIn h, wrapSucc (by omega), toNatCast])
    (List.replicate l.length 0) ⟨by simp, by simp⟩
  refine Ev.congr (fun k => ?_) key
  simp only [laws_toIntS.f]
  rw [if_pos (by omega), if_pos (by omega), toNatCast]

theorem eqIntS_ev {a b : List Int} (ha : a.length ≤ 1048576) : Ev (fun k => laws_eqIntS.f k a b) (decide (a = b)) := by
  by_cases e : a.length = b.length
  · have key := evScan a (fun k (_ : Unit) i => laws_eqIntS.l0 k a b i) (fun _ i t => decide (t = b.drop i)) (fun _ _ => True) (fun _ _ => by
        refine Ev.step (f := fun _ => some true) (fun k => ?_) ?_
        · simp only [laws_eqIntS.l0]
          rw [if_neg (by omega)]
        · rw [e, List.drop_length]
          exact Ev.now _) (fun _ i t h ht _ ih => by
        have hb : i < b.length := by omega
        have st : ∀ k, laws_eqIntS.l0 (k + 1) a b (i : Int) = if a[i] = b[i] then laws_eqIntS.l0 k a b ((i + 1 : Nat) : Int) else some false := by
          intro k
          simp only [laws_eqIntS.l0]
          rw [if_pos (by omega), if_pos (by omega), if_pos (by omega), rdIn h, rdIn hb, wrapSucc (by omega)]
        refine Ev.step st ?_
        rw [List.drop_eq_getElem_cons hb]
        by_cases c : a[i] = b[i]
        · refine evPos c ?_
          rw [show decide (a[i] :: t = b[i] :: b.drop (i + 1)) = decide (t = b.drop (i + 1)) by rw [decide_eq_decide, List.cons.injEq, and_iff_right c]]
          exact ih () trivial
        · refine evNeg c ?_
          rw [show decide (a[i] :: t = b[i] :: b.drop (i + 1)) = false by rw [decide_eq_false_iff_not, List.cons.injEq]; exact fun e => c e.1]
          exact Ev.now _)
      () trivial
    refine Ev.congr (fun k => ?_) key
    simp only [laws_eqIntS.f]
    rw [if_pos (by omega)]
  · have ne : ¬ a = b := fun h => e (by rw [h])
    refine Ev.congr (f := fun _ => some (decide (a = b))) (fun k => ?_) (Ev.now _)
    simp only [laws_eqIntS.f]
    rw [if_neg (by omega), decide_eq_false ne]
theorem eqIntS_same {a : List Int} (ha : a.length ≤ 1048576) : Ev (fun k => laws_eqIntS.f k a a) true := by
  have := eqIntS_ev (a := a) (b := a) ha
  rwa [decide_eq_true rfl] at this

theorem szIntS_ok {l : List Int} {q : Int} (hl : l.length ≤ maxLen) (h0 : 0 ≤ q) (h1 : q ≤ 1048576) : laws_szIntS.f l q = some (if (l.length : Int) ≤ q then q - (l.length : Int) else -1) := by
  unfold laws_szIntS.f
  unfold maxLen at hl
  rw [wrapId (n := q - (l.length : Int)) (by omega) (by omega)]
  by_cases c : (l.length : Int) ≤ q
  · rw [if_neg (by omega), if_pos c]
  · rw [if_pos (by omega), if_neg c]
theorem szLand_ok {w h : Int} {l : List Int} {q : Int} (hl : l.length ≤ maxLen) (h0 : 0 ≤ q) (h1 : q ≤ 1048576) : laws_szLand.f w h l q = some (if (l.length : Int) ≤ q then q - (l.length : Int) else -1) := by
  unfold laws_szLand.f
  rw [szIntS_ok hl h0 h1, Option.bind_some]
  by_cases c : (l.length : Int) ≤ q
  · rw [if_pos c, if_neg (by omega)]
  · rw [if_neg c, if_pos (by omega)]
theorem toLand_ev {w h : Int} {l : List Int} (hl : l.length ≤ 1048576) : Ev (fun k => laws_toLand.f k w h l) (w, h, l) := by
  unfold laws_toLand.f
  exact Ev.bind (toIntS_ev hl) (Ev.now _)
theorem eqLand_same {w h : Int} {l : List Int} (hl : l.length ≤ 1048576) : Ev (fun k => laws_eqLand.f k w h l w h l) true := by
  unfold laws_eqLand.f
  exact evPos rfl (evPos rfl (Ev.bind (eqIntS_same hl) (evPos rfl (Ev.now _))))

theorem markIntS_ev {l : List Int} {q : Int} (hl : l.length ≤ 1048576) (h0 : 0 ≤ q) (h1 : q ≤ 1000000000000) : Ev (fun k => laws_markIntS.f k l q) (q + (l.length : Int), seqFrom q l.length) := by
  have key := evScan l (fun k (s : List Int × Int) i => laws_markIntS.l0 k s.1 s.2 i) (fun _ _ _ => (q + (l.length : Int), seqFrom q l.length)) (fun s i => s.1.length = l.length ∧ s.1.take i = (seqFrom q l.length).take i ∧ s.2 = q + (i : Int)) (fun s ⟨g0, g1, g2⟩ => by
      refine Ev.step (f := fun _ => some (s.2, s.1)) (fun k => ?_) ?_
      · simp only [laws_markIntS.l0]
        rw [if_neg (by omega)]
      · have : s.1 = seqFrom q l.length := take_whole (by rw [seqFrom_length]; exact g0) (by rw [seqFrom_length]; exact g1)
        rw [this, g2]
        exact Ev.now _) (fun s i t h ht ⟨g0, g1, g2⟩ ih => by
      have hs : i < (seqFrom q l.length).length := by rw [seqFrom_length]; exact h
      have e := take_set_succ hs (by rw [seqFrom_length]; exact g0) g1
      rw [seqFrom_at] at e
      refine Ev.step (fun k => ?_) (ih (s.1.set i (q + (i : Int)), q + (i : Int) + 1) ⟨by simpa using g0, e, by simp only [Int.natCast_add]; omega⟩)
      simp only [laws_markIntS.l0]
      rw [if_pos (by omega), if_pos (by omega), g2, toNatCast, wrapSucc (by omega), wrapId (n := q + (i : Int) + 1) (by omega) (by omega)])
    (l, q) ⟨rfl, by simp, by simp⟩
  unfold laws_markIntS.f
  exact key

theorem markLand_ev {w h : Int} {l : List Int} {q : Int} (hl : l.length ≤ 1048576) (h0 : 0 ≤ q) (h1 : q ≤ 1000000000000) : Ev (fun k => laws_markLand.f k w h l q) (q + (l.length : Int), seqFrom q l.length) := by
  unfold laws_markLand.f
  exact Ev.bind (markIntS_ev hl h0 h1) (Ev.now _)

theorem szDepotS_ok {l : List S83} {q : Int} (hl : l.length ≤ maxLen) (h0 : 0 ≤ q) (h1 : q ≤ 1048576) : laws_szDepotS.f l q = some (if (l.length : Int) ≤ q then q - (l.length : Int) else -1) := by
  unfold laws_szDepotS.f
  unfold maxLen at hl
  rw [wrapId (n := q - (l.length : Int)) (by omega) (by omega)]
  by_cases c : (l.length : Int) ≤ q
  · rw [if_neg (by omega), if_pos c]
  · rw [if_pos (by omega), if_neg c]

theorem rdD {xs : List S66} {i : Nat} (h : i < xs.length) : rd_T66 xs (i : Int) = xs[i] := by
  unfold rd_T66
  rw [Int.toNat_natCast, getD_lt h]

def dep (x : S83) : S66 := ⟨x.f0, x.f1⟩
theorem rdLD {xs : List S83} {i : Nat} (h : i < xs.length) : rd_T83 xs (i : Int) = xs[i] := by
  unfold rd_T83
  rw [Int.toNat_natCast, getD_lt h]
theorem toDepotS_ev {l : List S83} (hl : l.length ≤ 1048576) : Ev (fun k => laws_toDepotS.f k l) (l.map dep) := by
  have key := evScan l (fun k (acc : List S66) i => laws_toDepotS.l0 k l acc i) (fun _ _ _ => l.map dep) (fun acc i => acc.length = (l.map dep).length ∧ acc.take i = (l.map dep).take i) (fun acc ⟨h0, h1⟩ => by
      refine Ev.step (f := fun _ => some acc) (fun k => ?_) ?_
      · simp only [laws_toDepotS.l0]
        rw [if_neg (by omega)]
      · rw [take_whole h0 (by rw [List.length_map]; exact h1)]
        exact Ev.now _) (fun acc i t h ht ⟨h0, h1⟩ ih => by
      have hm : i < (l.map dep).length := by rw [List.length_map]; exact h
      have hs := take_set_succ hm h0 h1
      rw [List.length_map] at h0
      refine Ev.step (fun k => ?_) (ih (acc.set i (l.map dep)[i]) ⟨by simpa using h0, hs⟩)
      simp only [laws_toDepotS.l0, laws_toDepot.f, Option.bind_some]
      rw [if_pos (by omega), if_pos (by omega), if_pos (by omega), rdLD h, wrapSucc (by omega), toNatCast, List.getElem_map]
      rfl)
    (List.replicate l.length z66) ⟨by simp, by simp⟩
  refine Ev.congr (fun k => ?_) key
  simp only [laws_toDepotS.f]
  rw [if_pos (by omega), if_pos (by omega), toNatCast]

theorem eqDepotS_same {a : List S66} (ha : a.length ≤ 2000000) : Ev (fun k => laws_eqDepotS.f k a a) true := by
  have key := evScan a (fun k (_ : Unit) i => laws_eqDepotS.l0 k a a i) (fun _ _ _ => true) (fun _ _ => True) (fun _ _ => by
      refine Ev.step (f := fun _ => some true) (fun k => ?_) (Ev.now _)
      simp only [laws_eqDepotS.l0]
      rw [if_neg (by omega)]) (fun _ i t h _ _ ih => by
      refine Ev.step (fun k => ?_) (ih () trivial)
      simp only [laws_eqDepotS.l0, laws_eqDepot.f, if_true, Option.bind_some]
      rw [if_pos (by omega), if_pos (by omega), if_pos (by omega), wrapSucc (by omega)])
    () trivial
  refine Ev.congr (fun k => ?_) key
  simp only [laws_eqDepotS.f, if_true]

theorem inRange_eq (a b c : Int) : impl_InRange.f a b c = some (decide (b ≤ a ∧ a ≤ c)) := by
  unfold impl_InRange.f
  by_cases h : b ≤ a
  · rw [if_pos h]
    simp [h]
  · rw [if_neg h]
    simp [h]

def inB (lo hi : Int) (l : List Int) : Bool := l.all (fun x => decide (lo ≤ x ∧ x ≤ hi))
theorem inB_iff {lo hi : Int} {l : List Int} : inB lo hi l = true ↔ ∀ x ∈ l, lo ≤ x ∧ x ≤ hi := by
  unfold inB
  simp only [List.all_eq_true, decide_eq_true_eq]
theorem inB_yes {lo hi x : Int} {t : List Int} (d : lo ≤ x ∧ x ≤ hi) : inB lo hi (x :: t) = inB lo hi t := by
  simp only [inB, List.all_cons, d, and_self, decide_true, Bool.true_and]
theorem inB_no {lo hi x : Int} {t : List Int} (d : ¬ (lo ≤ x ∧ x ≤ hi)) : inB lo hi (x :: t) = false := by
  simp only [inB, List.all_cons, d, decide_false, Bool.false_and]
/-- A land: its sides, its cells. -/
def landOk (w h : Int) (c : List Int) : Prop := ((1 ≤ w ∧ w ≤ 8) ∧ (1 ≤ h ∧ h ≤ 8)) ∧ (c.length : Int) = w * h ∧ ∀ x ∈ c, 0 ≤ x ∧ x ≤ 2
instance (w h : Int) (c : List Int) : Decidable (landOk w h c) := inferInstanceAs (Decidable (_ ∧ _))
def cellOk (w h : Int) (c : List Int) (n : Int) : Prop := landOk w h c ∧ 0 ≤ n ∧ n < (c.length : Int)
instance (w h : Int) (c : List Int) (n : Int) : Decidable (cellOk w h c n) := inferInstanceAs (Decidable (_ ∧ _))
def openOk (w h : Int) (c : List Int) (n : Int) : Prop := cellOk w h c n ∧ rd c n ≠ 2
instance (w h : Int) (c : List Int) (n : Int) : Decidable (openOk w h c n) := inferInstanceAs (Decidable (_ ∧ _))
theorem sideB {w h : Int} (hw : 1 ≤ w ∧ w ≤ 8) (hh : 1 ≤ h ∧ h ≤ 8) : 1 ≤ w * h ∧ w * h ≤ 64 := by
  have h0 : 1 * 1 ≤ w * h := Int.mul_le_mul hw.1 hh.1 (by omega) (by omega)
  have h1 : w * h ≤ 8 * 8 := Int.mul_le_mul hw.2 hh.2 (by omega) (by omega)
  omega
theorem landOk.len {w h : Int} {c : List Int} (x : landOk w h c) : 1 ≤ c.length ∧ c.length ≤ 64 := by
  have := sideB x.1.1 x.1.2
  have := x.2.1
  omega

theorem allIn_ev {l : List Int} (lo hi : Int) (hl : l.length ≤ 100000000) : Ev (fun k => impl_allIn.f k l lo hi) (inB lo hi l) := by
  have key := evScan l (fun k (_ : Unit) i => impl_allIn.l0 k lo hi l (l.length : Int) i) (fun _ _ t => inB lo hi t) (fun _ _ => True) (fun _ _ => by
      rw [show inB lo hi [] = true from rfl]
      refine Ev.step (f := fun _ => some true) (fun k => ?_) (Ev.now _)
      simp only [impl_allIn.l0]
      rw [if_neg (by omega)]) (fun _ i t h _ _ ih => by
      have st : ∀ k, impl_allIn.l0 (k + 1) lo hi l (l.length : Int) (i : Int) = if decide (lo ≤ l[i] ∧ l[i] ≤ hi) = true then impl_allIn.l0 k lo hi l (l.length : Int) ((i + 1 : Nat) : Int) else some false := by
        intro k
        simp only [impl_allIn.l0, inRange_eq, Option.bind_some]
        rw [if_pos (by omega), if_pos (by omega), if_pos (by omega), rdIn h, wrapSucc (by omega)]
      refine Ev.step st ?_
      by_cases d : lo ≤ l[i] ∧ l[i] ≤ hi
      · refine evPos (decide_eq_true d) ?_
        rw [inB_yes d]
        exact ih () trivial
      · refine evNeg (by rw [decide_eq_true_eq]; exact d) ?_
        rw [inB_no d]
        exact Ev.now _)
    () trivial
  unfold impl_allIn.f
  exact key
theorem impl_IsLand_ev (w h : Int) (c : List Int) : Ev (fun k => impl_IsLand.f k w h c) (decide (landOk w h c)) := by
  unfold impl_IsLand.f
  simp only [inRange_eq, Option.bind_some]
  by_cases c0 : 1 ≤ w ∧ w ≤ 8
  · refine evPos (decide_eq_true c0) ?_
    by_cases c1 : 1 ≤ h ∧ h ≤ 8
    · have sb := sideB c0 c1
      refine evPos (decide_eq_true c1) ?_
      rw [wrapId (n := w * h) (by omega) (by omega)]
      by_cases c2 : (c.length : Int) = w * h
      · refine evPos c2 (Ev.bind (allIn_ev 0 2 (by omega)) ?_)
        rw [show decide (landOk w h c) = inB 0 2 c by rw [Bool.eq_iff_iff, decide_eq_true_eq, inB_iff]; exact ⟨fun x => x.2.2, fun x => ⟨⟨c0, c1⟩, c2, x⟩⟩]
        exact Ev.now _
      · rw [decide_eq_false (fun x : landOk w h c => c2 x.2.1)]
        exact evNeg c2 (Ev.now _)
    · rw [decide_eq_false (fun x : landOk w h c => c1 x.1.2)]
      exact evNeg (by rw [decide_eq_true_eq]; exact c1) (Ev.now _)
  · rw [decide_eq_false (fun x : landOk w h c => c0 x.1.1)]
    exact evNeg (by rw [decide_eq_true_eq]; exact c0) (Ev.now _)
theorem impl_IsCell_ev (w h : Int) (c : List Int) (n : Int) : Ev (fun k => impl_IsCell.f k w h c n) (decide (cellOk w h c n)) := by
  unfold impl_IsCell.f
  refine Ev.bind (impl_IsLand_ev w h c) ?_
  by_cases q : landOk w h c
  · refine evPos (decide_eq_true q) ?_
    have := q.len
    simp only [inRange_eq, Option.bind_some]
    rw [wrapId (n := (c.length : Int) - 1) (by omega) (by omega), show decide (cellOk w h c n) = decide (0 ≤ n ∧ n ≤ (c.length : Int) - 1) by rw [decide_eq_decide]; exact ⟨fun x => ⟨x.2.1, by have := x.2.2; omega⟩, fun x => ⟨q, x.1, by omega⟩⟩]
    exact Ev.now _
  · rw [decide_eq_false (fun x : cellOk w h c n => q x.1)]
    exact evNeg (by rw [decide_eq_true_eq]; exact q) (Ev.now _)

theorem impl_IsOpen_ev (w h : Int) (c : List Int) (n : Int) : Ev (fun k => impl_IsOpen.f k w h c n) (decide (openOk w h c n)) := by
  unfold impl_IsOpen.f
  refine Ev.bind (impl_IsCell_ev w h c n) ?_
  by_cases q : cellOk w h c n
  · refine evPos (decide_eq_true q) (evPos q.2.1 (evPos q.2.2 ?_))
    rw [show decide (openOk w h c n) = (rd c n != 2) by rw [Bool.eq_iff_iff, decide_eq_true_eq, bne_iff_ne]; exact ⟨fun x => x.2, fun x => ⟨q, x⟩⟩]
    exact Ev.now _
  · rw [decide_eq_false (fun x : openOk w h c n => q x.1)]
    exact evNeg (by rw [decide_eq_true_eq]; exact q) (Ev.now _)

def okD (w h : Int) (c : List Int) (d : S66) : Bool := decide (openOk w h c d.f0) && decide (1 ≤ d.f1 ∧ d.f1 ≤ 10000)
/-- Depots of a land, behind one at the cell p. -/
def depsFrom (w h : Int) (c : List Int) : Int → List S66 → Bool
  | _, [] => true
  | p, d :: t => okD w h c d && (decide (p < d.f0) && depsFrom w h c d.f0 t)
def areDeps (w h : Int) (c : List Int) (l : List S66) : Bool := depsFrom w h c (-1) l && (decide (landOk w h c) && decide ((l.length : Int) ≤ 20))
def prevCell (l : List S66) (i : Nat) : Int := if i = 0 then -1 else (l.getD (i - 1) z66).f0
theorem prevCell_succ {l : List S66} {i : Nat} (h : i < l.length) : prevCell l (i + 1) = l[i].f0 := by
  unfold prevCell
  rw [if_neg (by omega), Nat.add_sub_cancel, getD_lt h]
theorem prevCell_pos {l : List S66} {i : Nat} (hl : l.length ≤ 100000000) (h : i ≤ l.length) (h0 : 0 < i) : prevCell l i = (rd_T66 l (wrap64 ((i : Int) - 1))).f0 := by
  rw [wrapId (n := (i : Int) - 1) (by omega) (by omega), show ((i : Int) - 1) = ((i - 1 : Nat) : Int) by omega, rdD (by omega)]
  unfold prevCell
  rw [if_neg (by omega), getD_lt (by omega)]
theorem okD_cell {w h : Int} {c : List Int} {d : S66} (e : okD w h c d = true) : 0 ≤ d.f0 := by
  unfold okD at e
  simp only [Bool.and_eq_true, decide_eq_true_eq] at e
  exact e.1.1.2.1

theorem impl_AreDepots_ev {l : List S66} (w h : Int) (c : List Int) (hl : l.length ≤ 100000000) : Ev (fun k => impl_AreDepots.f k w h c l) (areDeps w h c l) := by
  have key := evScan l (fun k (_ : Unit) i => impl_AreDepots.l0 k l l (l.length : Int) i w h c) (fun _ i t => depsFrom w h c (prevCell l i) t && (decide (landOk w h c) && decide ((l.length : Int) ≤ 20))) (fun _ _ => True) (fun _ _ => by
      refine Ev.step (f := fun k => (impl_IsLand.f k w h c).bind fun t => if t = true then some (decide ((l.length : Int) ≤ 20)) else some false) (fun k => ?_) (Ev.bind (impl_IsLand_ev w h c) ?_)
      · simp only [impl_AreDepots.l0]
        rw [if_neg (by omega)]
      · simp only [depsFrom, Bool.true_and]
        by_cases q : landOk w h c
        · rw [decide_eq_true q, Bool.true_and]
          exact evPos rfl (Ev.now _)
        · rw [decide_eq_false q, Bool.false_and]
          exact evNeg (by decide) (Ev.now _)) (fun _ i t hi ht _ ih => by
      have ih := ih () trivial
      rw [prevCell_succ hi] at ih
      have bad : ∀ (q : ¬ (okD w h c l[i] = true ∧ prevCell l i < l[i].f0)), Ev (fun _ => some false) (depsFrom w h c (prevCell l i) (l[i] :: t) && (decide (landOk w h c) && decide ((l.length : Int) ≤ 20))) := by
        intro q
        have e : depsFrom w h c (prevCell l i) (l[i] :: t) = false := by
          simp only [depsFrom]
          by_cases d : okD w h c l[i] = true
          · have n : ¬ prevCell l i < l[i].f0 := fun x => q ⟨d, x⟩
            simp [n]
          · simp [d]
        rw [e, Bool.false_and]
        exact Ev.now _
      have st : ∀ k, impl_AreDepots.l0 (k + 1) l l (l.length : Int) (i : Int) w h c = (impl_IsOpen.f k w h c l[i].f0).bind fun o => if o = true then (if prevCell l i < l[i].f0 ∨ i = 0 then (if decide (1 ≤ l[i].f1 ∧ l[i].f1 ≤ 10000) = true then impl_AreDepots.l0 k l l (l.length : Int) ((i + 1 : Nat) : Int) w h c else some false) else some false) else some false := by
        intro k
        simp only [impl_AreDepots.l0, inRange_eq, Option.bind_some]
        rw [if_pos (by omega), if_pos (by omega), if_pos (by omega), rdD hi, wrapSucc (by omega)]
        by_cases c1 : 0 < i
        · rw [← prevCell_pos hl (by omega) c1]
          have w1 : wrap64 ((i : Int) - 1) = ((i - 1 : Nat) : Int) := by rw [wrapId (n := (i : Int) - 1) (by omega) (by omega)]; omega
          rw [w1]
          have g1 : (i : Int) > 0 := by omega
          have g2 : (0 : Int) ≤ ((i - 1 : Nat) : Int) := by omega
          have g3 : ((i - 1 : Nat) : Int) < (l.length : Int) := by omega
          have g4 : ¬ i = 0 := by omega
          simp only [if_pos g1, if_pos g2, if_pos g3, g4, or_false]
          by_cases c2 : l[i].f0 ≤ prevCell l i
          · simp only [if_pos c2, if_neg (show ¬ prevCell l i < l[i].f0 by omega)]
          · simp only [if_neg c2, if_pos (show prevCell l i < l[i].f0 by omega)]
        · have g1 : ¬ ((i : Int) > 0) := by omega
          have g4 : i = 0 := by omega
          simp only [if_neg g1, if_pos (show prevCell l i < l[i].f0 ∨ i = 0 from .inr g4)]
      refine Ev.step st (Ev.bind (impl_IsOpen_ev w h c l[i].f0) ?_)
      by_cases q0 : openOk w h c l[i].f0
      · refine evPos (decide_eq_true q0) ?_
        by_cases q1 : prevCell l i < l[i].f0 ∨ i = 0
        · refine evPos q1 ?_
          have lt : prevCell l i < l[i].f0 := by
            rcases q1 with x | x
            · exact x
            · unfold prevCell
              rw [if_pos x]
              have := q0.1.2.1
              omega
          by_cases q2 : 1 ≤ l[i].f1 ∧ l[i].f1 ≤ 10000
          · refine evPos (decide_eq_true q2) ?_
            have ok : okD w h c l[i] = true := by unfold okD; rw [decide_eq_true q0, decide_eq_true q2]; rfl
            simp only [depsFrom, ok, lt, decide_true, Bool.true_and]
            exact ih
          · refine evNeg (by rw [decide_eq_true_eq]; exact q2) (bad ?_)
            rintro ⟨x, _⟩
            unfold okD at x
            simp only [Bool.and_eq_true, decide_eq_true_eq] at x
            exact q2 x.2
        · exact evNeg q1 (bad (fun x => q1 (.inl x.2)))
      · refine evNeg (by rw [decide_eq_true_eq]; exact q0) (bad ?_)
        rintro ⟨x, _⟩
        unfold okD at x
        simp only [Bool.and_eq_true, decide_eq_true_eq] at x
        exact q0 x.1)
    () trivial
  unfold impl_AreDepots.f
  exact key

def foodAt (c : Int) : List S66 → Int
  | [] => 0
  | d :: t => if d.f0 = c then d.f1 else foodAt c t

/-- What is left of the depots where n is taken from a cell. -/
def takeL (cell n : Int) : List S66 → List S66
  | [] => []
  | d :: t => if d.f0 = cell then (if d.f1 - n > 0 then (⟨d.f0, d.f1 - n⟩ : S66) :: takeL cell n t else takeL cell n t) else (if d.f1 > 0 then d :: takeL cell n t else takeL cell n t)
theorem takeL_len (cell n : Int) : ∀ l : List S66, (takeL cell n l).length ≤ l.length
  | [] => Nat.le_refl _
  | d :: t => by
    have := takeL_len cell n t
    simp only [takeL, List.length_cons]
    split
    · split <;> (try simp only [List.length_cons]) <;> omega
    · split <;> (try simp only [List.length_cons]) <;> omega
def takeRes (w h : Int) (c : List Int) (l : List S66) (cell n : Int) : List S66 × Bool := if areDeps w h c l = true ∧ (1 ≤ n ∧ n ≤ foodAt cell l) then (takeL cell n l, true) else (l, false)
theorem takeRes_len (w h : Int) (c : List Int) (l : List S66) (cell n : Int) : (takeRes w h c l cell n).1.length ≤ l.length := by
  unfold takeRes
  split
  · exact takeL_len cell n l
  · exact Nat.le_refl _
theorem depsFrom_food {w h : Int} {c : List Int} : ∀ {l : List S66} {p : Int}, depsFrom w h c p l = true → ∀ d ∈ l, 1 ≤ d.f1 ∧ d.f1 ≤ 10000
  | [], _, _, d, hd => by cases hd
  | x :: t, p, e, d, hd => by
    simp only [depsFrom, Bool.and_eq_true] at e
    rcases List.mem_cons.1 hd with rfl | hd
    · have := e.1
      unfold okD at this
      simp only [Bool.and_eq_true, decide_eq_true_eq] at this
      exact this.2
    · exact depsFrom_food e.2.2 d hd
theorem depsFrom_far {w h : Int} {c : List Int} : ∀ {l : List S66} {p cell : Int}, depsFrom w h c p l = true → cell ≤ p → ∀ d ∈ l, d.f0 ≠ cell
  | [], _, _, _, _, d, hd => by cases hd
  | x :: t, p, cell, e, hp, d, hd => by
    simp only [depsFrom, Bool.and_eq_true, decide_eq_true_eq] at e
    rcases List.mem_cons.1 hd with rfl | hd
    · omega
    · exact depsFrom_far e.2.2 (by omega) d hd
theorem foodAt_none {cell : Int} : ∀ {l : List S66}, (∀ d ∈ l, d.f0 ≠ cell) → foodAt cell l = 0
  | [], _ => rfl
  | x :: t, h => by
    simp only [foodAt]
    rw [if_neg (h x List.mem_cons_self)]
    exact foodAt_none (fun d hd => h d (List.mem_cons_of_mem _ hd))
theorem foodAt_mem {cell : Int} : ∀ {l : List S66}, foodAt cell l = 0 ∨ ∃ d ∈ l, d.f0 = cell ∧ foodAt cell l = d.f1
  | [] => .inl rfl
  | x :: t => by
    simp only [foodAt]
    by_cases e : x.f0 = cell
    · rw [if_pos e]
      exact .inr ⟨x, List.mem_cons_self, e, rfl⟩
    · rw [if_neg e]
      rcases foodAt_mem (cell := cell) (l := t) with q | ⟨d, hd, q⟩
      · exact .inl q
      · exact .inr ⟨d, List.mem_cons_of_mem _ hd, q⟩
theorem takeL_none {cell n : Int} : ∀ {l : List S66}, (∀ d ∈ l, d.f0 ≠ cell) → (∀ d ∈ l, 1 ≤ d.f1 ∧ d.f1 ≤ 10000) → takeL cell n l = l
  | [], _, _ => rfl
  | x :: t, h, f => by
    simp only [takeL]
    rw [if_neg (h x List.mem_cons_self), if_pos (by have := f x List.mem_cons_self; omega), takeL_none (fun d hd => h d (List.mem_cons_of_mem _ hd)) (fun d hd => f d (List.mem_cons_of_mem _ hd))]

/-- The depots with so much food at a cell; done: the cell has been met, or nothing is to be laid. -/
def set8 (cell food : Int) : Bool → List S66 → List S66
  | true, [] => []
  | false, [] => [⟨cell, food⟩]
  | true, d :: t => if d.f0 = cell then set8 cell food true t else d :: set8 cell food true t
  | false, d :: t => if d.f0 ≥ cell then (⟨cell, food⟩ : S66) :: (if d.f0 = cell then set8 cell food true t else d :: set8 cell food true t) else d :: set8 cell food false t
theorem set8_len (cell food : Int) : ∀ (l : List S66) (b : Bool), (set8 cell food b l).length ≤ l.length + 1
  | [], true => by simp [set8]
  | [], false => by simp [set8]
  | d :: t, true => by
    have := set8_len cell food t true
    simp only [set8]
    split <;> simp only [List.length_cons] <;> omega
  | d :: t, false => by
    have h0 := set8_len cell food t true
    have h1 := set8_len cell food t false
    simp only [set8]
    have h2 : (set8 cell food true t).length ≤ t.length := by
      have : ∀ s : List S66, (set8 cell food true s).length ≤ s.length := by
        intro s
        induction s with
        | nil => simp [set8]
        | cons y s ih =>
          simp only [set8]
          split <;> simp only [List.length_cons] <;> omega
      exact this t
    split
    · split <;> (try simp only [List.length_cons]) <;> omega
    · simp only [List.length_cons]
      omega
theorem set8_none {cell food : Int} : ∀ {l : List S66}, (∀ d ∈ l, d.f0 ≠ cell) → set8 cell food true l = l
  | [], _ => rfl
  | x :: t, h => by
    simp only [set8]
    rw [if_neg (h x List.mem_cons_self), set8_none (fun d hd => h d (List.mem_cons_of_mem _ hd))]

/-- The depots where n more is laid at a cell. -/
def layL (cell n : Int) : List S66 → List S66
  | [] => [⟨cell, n⟩]
  | d :: t => if d.f0 < cell then d :: layL cell n t else if d.f0 = cell then (⟨d.f0, d.f1 + n⟩ : S66) :: t else (⟨cell, n⟩ : S66) :: d :: t
theorem layL_len (cell n : Int) : ∀ l : List S66, (layL cell n l).length ≤ l.length + 1
  | [] => by simp [layL]
  | d :: t => by
    have := layL_len cell n t
    simp only [layL]
    split
    · simp only [List.length_cons]
      omega
    · split <;> simp only [List.length_cons] <;> omega
def layRes (w h : Int) (c : List Int) (l : List S66) (cell n : Int) : List S66 × Bool := if areDeps w h c l = true ∧ (1 ≤ n ∧ n ≤ 10000) then (if areDeps w h c (layL cell n l) = true then (layL cell n l, true) else (l, false)) else (l, false)
theorem layRes_len (w h : Int) (c : List Int) (l : List S66) (cell n : Int) : (layRes w h c l cell n).1.length ≤ l.length + 1 := by
  unfold layRes
  split
  · split
    · exact layL_len cell n l
    · exact Nat.le_succ _
  · exact Nat.le_succ _
theorem lay_set8 {w h : Int} {c : List Int} {cell n : Int} : ∀ {l : List S66} {p : Int}, depsFrom w h c p l = true → layL cell n l = set8 cell (foodAt cell l + n) false l
  | [], _, _ => by simp [layL, set8, foodAt]
  | x :: t, p, e => by
    have e' := e
    simp only [depsFrom, Bool.and_eq_true, decide_eq_true_eq] at e'
    by_cases a : x.f0 < cell
    · simp only [layL, set8, foodAt, if_pos a, if_neg (show ¬ x.f0 ≥ cell by omega), if_neg (show ¬ x.f0 = cell by omega)]
      rw [lay_set8 e'.2.2]
    · have far := depsFrom_far e'.2.2 (show cell ≤ x.f0 by omega)
      by_cases b : x.f0 = cell
      · simp only [layL, set8, foodAt, if_neg a, if_pos b, if_pos (show x.f0 ≥ cell by omega)]
        rw [set8_none far, b]
      · simp only [layL, set8, foodAt, if_neg a, if_neg b, if_pos (show x.f0 ≥ cell by omega)]
        rw [set8_none far, foodAt_none far, Int.zero_add]

theorem shift_set {α : Type} (l : List α) (z v : α) (i : Nat) (hi : i ≤ l.length) : (Go.Proofs.Ytdgpnmbmnnmdcaa.Copy.shiftS (l ++ [z]) i).set i v = l.take i ++ v :: l.drop i := by
  unfold Go.Proofs.Ytdgpnmbmnnmdcaa.Copy.shiftS
  have h1 : ((l ++ [z]).take (i + 1)).length = i + 1 := by
    rw [List.length_take, List.length_append, List.length_singleton]
    omega
  have h2 : ((l ++ [z]).drop i).take ((l ++ [z]).length - (i + 1)) = l.drop i := by
    rw [List.drop_append_of_le_length hi, List.take_append_of_le_length (by rw [List.length_drop, List.length_append, List.length_singleton]; omega)]
    exact List.take_of_length_le (by rw [List.length_drop, List.length_append, List.length_singleton]; omega)
  rw [h2, List.set_append_left _ _ (by omega), List.set_eq_take_append_cons_drop, if_pos (by omega), List.take_take, List.drop_eq_nil_of_le (by omega)]
  rw [show min i (i + 1) = i by omega, List.take_append_of_le_length hi, List.append_assoc]
  rfl
theorem impl_Lay_ev {l : List S66} (w h : Int) (c : List Int) (cell n : Int) (hl : l.length ≤ 10000000) : Ev (fun k => impl_Lay.f k w h c l cell n) (layRes w h c l cell n) := by
  have copy : impl_copyDepots.f l = some l := by
    simp only [impl_copyDepots.f, Option.bind_some, List.length_nil, Nat.zero_add, List.nil_append]
    rw [if_pos (by omega)]
  have no : ¬ (areDeps w h c l = true ∧ (1 ≤ n ∧ n ≤ 10000)) → Ev (fun k => impl_Lay.j0 k l cell n true w h c) (layRes w h c l cell n) := by
    intro q
    unfold layRes
    rw [if_neg q]
    refine Ev.step (f := fun _ => some (l, false)) (fun k => ?_) (Ev.now _)
    simp only [impl_Lay.j0, if_true, copy, Option.bind_some]
  unfold impl_Lay.f
  simp only [inRange_eq, Option.bind_some]
  by_cases b : 1 ≤ n ∧ n ≤ 10000
  · refine evPos (decide_eq_true b) (Ev.bind (impl_AreDepots_ev w h c (by omega)) ?_)
    by_cases a : areDeps w h c l = true
    · rw [a, Bool.not_true]
      have a' := a
      unfold areDeps at a'
      simp only [Bool.and_eq_true] at a'
      have food := depsFrom_food a'.1
      have fin : ∀ y : List S66, y = layL cell n l → Ev (fun k => impl_Lay.j4 k l y w h c) (layRes w h c l cell n) := by
        rintro y rfl
        have hy := layL_len cell n l
        unfold layRes
        rw [if_pos ⟨a, b⟩]
        refine Ev.step (f := fun k => (impl_AreDepots.f k w h c (layL cell n l)).bind fun t => if t = true then some (layL cell n l, true) else some (l, false)) (fun k => ?_) (Ev.bind (impl_AreDepots_ev w h c (by omega)) ?_)
        · simp only [impl_Lay.j4, copy, Option.bind_some]
        · by_cases g : areDeps w h c (layL cell n l) = true
          · simp only [if_pos g]
            exact Ev.now _
          · simp only [if_neg g]
            exact Ev.now _
      have putIn : ∀ (i : Nat), i ≤ l.length → l.take i ++ (⟨cell, n⟩ : S66) :: l.drop i = layL cell n l → Ev (fun k => impl_Lay.j3 k l cell n l (i : Int) false w h c) (layRes w h c l cell n) := by
        intro i hi e
        refine Ev.step (fun k => ?_) (fin _ e)
        have w1 : wrap64 ((i : Int) + 1) = ((i + 1 : Nat) : Int) := wrapSucc (by omega)
        simp only [impl_Lay.j3, Bool.false_eq_true, if_false, Option.bind_some, w1, toNatCast]
        rw [if_pos (show l.length < 8796093022208 by omega), if_pos (by omega), if_pos (by rw [List.length_append, List.length_singleton]; omega), if_pos (by omega), if_pos (by rw [List.length_append, List.length_singleton]; omega), if_pos (by rw [List.length_append, List.length_singleton]; omega), shift_set l _ _ i hi]
      have key := evScan l (fun k (_ : Unit) i => impl_Lay.l0 k l cell n l i w h c) (fun _ _ _ => layRes w h c l cell n) (fun _ i => l.take i ++ layL cell n (l.drop i) = layL cell n l) (fun _ e => by
          rw [List.take_length, List.drop_length] at e
          refine Ev.step (f := fun k => impl_Lay.j2 k l cell n l (l.length : Int) w h c) (fun k => ?_) (Ev.step (fun k => ?_) (putIn l.length (Nat.le_refl _) ?_))
          · simp only [impl_Lay.l0]
            rw [if_neg (by omega)]
          · simp only [impl_Lay.j2]
            rw [if_neg (by omega)]
          · rw [List.take_length, List.drop_length]
            exact e) (fun _ i t hi ht e ih => by
          have f := food l[i] (List.getElem_mem hi)
          have ed : l.drop i = l[i] :: t := by rw [List.drop_eq_getElem_cons hi, ht]
          rw [ed] at e
          simp only [layL] at e
          have st : ∀ k, impl_Lay.l0 (k + 1) l cell n l (i : Int) w h c = if l[i].f0 < cell then impl_Lay.l0 k l cell n l ((i + 1 : Nat) : Int) w h c else impl_Lay.j2 k l cell n l (i : Int) w h c := by
            intro k
            simp only [impl_Lay.l0]
            rw [if_pos (by omega), if_pos (by omega), rdD hi, wrapSucc (by omega)]
          refine Ev.step st ?_
          by_cases g : l[i].f0 < cell
          · rw [if_pos g] at e
            refine evPos g (ih () ?_)
            rw [← ht, List.take_succ_eq_append_getElem hi, List.append_assoc, List.singleton_append]
            exact e
          · rw [if_neg g] at e
            refine evNeg g (Ev.step (f := fun k => impl_Lay.j3 k l cell n l (i : Int) (l[i].f0 == cell) w h c) (fun k => ?_) ?_)
            · simp only [impl_Lay.j2]
              rw [if_pos (by omega), if_pos (by omega), rdD hi]
            · by_cases q : l[i].f0 = cell
              · rw [if_pos q] at e
                rw [beq_iff_eq.2 q]
                refine Ev.step (fun k => ?_) (fin _ e)
                simp only [impl_Lay.j3, if_true, toNatCast]
                rw [if_pos (by omega), if_pos (by omega), rdD hi, wrapId (n := l[i].f1 + n) (by omega) (by omega), List.set_eq_take_append_cons_drop, if_pos hi, ← ht]
              · rw [if_neg q] at e
                rw [beq_eq_false_iff_ne.2 q]
                exact putIn i (by omega) (by rw [ed]; exact e))
        () (by simp)
      refine Ev.step (fun k => ?_) key
      simp only [impl_Lay.j0, Bool.false_eq_true, if_false, copy, Option.bind_some]
    · rw [Bool.eq_false_iff.2 a, Bool.not_false]
      exact no (fun x => a x.1)
  · exact evNeg (by rw [decide_eq_true_eq]; exact b) (no (fun x => b x.2))

theorem l1In_eq (a b c : Int) : spec_l1In.f a b c = some (decide (b ≤ a ∧ a ≤ c)) := by
  unfold spec_l1In.f
  by_cases h : b ≤ a
  · rw [if_pos h]
    simp [h]
  · rw [if_neg h]
    simp [h]

theorem spec_IsLand_ev (w h : Int) (c : List Int) : Ev (fun k => spec_IsLand.f k w h c) (decide (landOk w h c)) := by
  have no : ∀ (q : ¬ landOk w h c), Ev (fun k => spec_IsLand.j0 k true w h c) (decide (landOk w h c)) := by
    intro q
    rw [decide_eq_false q]
    refine Ev.step (f := fun _ => some false) (fun k => ?_) (Ev.now _)
    simp only [spec_IsLand.j0, if_true]
  unfold spec_IsLand.f
  simp only [l1In_eq, Option.bind_some]
  by_cases c0 : 1 ≤ w ∧ w ≤ 8
  · refine evPos (decide_eq_true c0) ?_
    by_cases c1 : 1 ≤ h ∧ h ≤ 8
    · have sb := sideB c0 c1
      refine evPos (decide_eq_true c1) ?_
      rw [wrapId (n := w * h) (by omega) (by omega)]
      by_cases c2 : (c.length : Int) = w * h
      · rw [show ((c.length : Int) != w * h) = false by simp [c2], show decide (landOk w h c) = inB 0 2 c by rw [Bool.eq_iff_iff, decide_eq_true_eq, inB_iff]; exact ⟨fun x => x.2.2, fun x => ⟨⟨c0, c1⟩, c2, x⟩⟩]
        refine Ev.step (f := fun k => spec_IsLand.l0 k 0 w h c) (fun k => ?_) ?_
        · simp only [spec_IsLand.j0, Bool.false_eq_true, if_false]
        exact evScan c (fun k (_ : Unit) i => spec_IsLand.l0 k i w h c) (fun _ _ t => inB 0 2 t) (fun _ _ => True) (fun _ _ => by
          rw [show inB 0 2 [] = true from rfl]
          refine Ev.step (f := fun _ => some true) (fun k => ?_) (Ev.now _)
          simp only [spec_IsLand.l0]
          rw [if_neg (by omega)]) (fun _ i t hi _ _ ih => by
          have st : ∀ k, spec_IsLand.l0 (k + 1) (i : Int) w h c = if decide (0 ≤ c[i] ∧ c[i] ≤ 2) = true then spec_IsLand.l0 k ((i + 1 : Nat) : Int) w h c else some false := by
            intro k
            simp only [spec_IsLand.l0, l1In_eq, Option.bind_some]
            rw [if_pos (by omega), if_pos (by omega), rdIn hi, wrapSucc (by omega)]
          refine Ev.step st ?_
          by_cases d : 0 ≤ c[i] ∧ c[i] ≤ 2
          · refine evPos (decide_eq_true d) ?_
            rw [inB_yes d]
            exact ih () trivial
          · refine evNeg (by rw [decide_eq_true_eq]; exact d) ?_
            rw [inB_no d]
            exact Ev.now _)
          () trivial
      · rw [show ((c.length : Int) != w * h) = true by simp [c2]]
        exact no (fun x => c2 x.2.1)
    · exact evNeg (by rw [decide_eq_true_eq]; exact c1) (no (fun x => c1 x.1.2))
  · exact evNeg (by rw [decide_eq_true_eq]; exact c0) (no (fun x => c0 x.1.1))
theorem spec_IsCell_ev (w h : Int) (c : List Int) (n : Int) : Ev (fun k => spec_IsCell.f k w h c n) (decide (cellOk w h c n)) := by
  unfold spec_IsCell.f
  refine Ev.bind (spec_IsLand_ev w h c) ?_
  by_cases q : landOk w h c
  · refine evPos (decide_eq_true q) ?_
    have := q.len
    simp only [l1In_eq, Option.bind_some]
    rw [wrapId (n := (c.length : Int) - 1) (by omega) (by omega), show decide (cellOk w h c n) = decide (0 ≤ n ∧ n ≤ (c.length : Int) - 1) by rw [decide_eq_decide]; exact ⟨fun x => ⟨x.2.1, by have := x.2.2; omega⟩, fun x => ⟨q, x.1, by omega⟩⟩]
    exact Ev.now _
  · rw [decide_eq_false (fun x : cellOk w h c n => q x.1)]
    exact evNeg (by rw [decide_eq_true_eq]; exact q) (Ev.now _)

theorem spec_IsOpen_ev (w h : Int) (c : List Int) (n : Int) : Ev (fun k => spec_IsOpen.f k w h c n) (decide (openOk w h c n)) := by
  unfold spec_IsOpen.f
  refine Ev.bind (spec_IsCell_ev w h c n) ?_
  by_cases q : cellOk w h c n
  · refine evPos (decide_eq_true q) (evPos q.2.1 (evPos q.2.2 ?_))
    rw [show decide (openOk w h c n) = (rd c n != 2) by rw [Bool.eq_iff_iff, decide_eq_true_eq, bne_iff_ne]; exact ⟨fun x => x.2, fun x => ⟨q, x⟩⟩]
    exact Ev.now _
  · rw [decide_eq_false (fun x : openOk w h c n => q x.1)]
    exact evNeg (by rw [decide_eq_true_eq]; exact q) (Ev.now _)

theorem spec_AreDepots_ev {l : List S66} (w h : Int) (c : List Int) (hl : l.length ≤ 100000000) : Ev (fun k => spec_AreDepots.f k w h c l) (areDeps w h c l) := by
  have key := evScan l (fun k (_ : Unit) i => spec_AreDepots.l0 k l i w h c) (fun _ i t => depsFrom w h c (prevCell l i) t && (decide (landOk w h c) && decide ((l.length : Int) ≤ 20))) (fun _ _ => True) (fun _ _ => by
      refine Ev.step (f := fun k => (spec_IsLand.f k w h c).bind fun t => if t = true then some (decide ((l.length : Int) ≤ 20)) else some false) (fun k => ?_) (Ev.bind (spec_IsLand_ev w h c) ?_)
      · simp only [spec_AreDepots.l0]
        rw [if_neg (by omega)]
      · simp only [depsFrom, Bool.true_and]
        by_cases q : landOk w h c
        · rw [decide_eq_true q, Bool.true_and]
          exact evPos rfl (Ev.now _)
        · rw [decide_eq_false q, Bool.false_and]
          exact evNeg (by decide) (Ev.now _)) (fun _ i t hi ht _ ih => by
      have ih := ih () trivial
      rw [prevCell_succ hi] at ih
      have bad : ∀ (q : ¬ (okD w h c l[i] = true ∧ prevCell l i < l[i].f0)), Ev (fun _ => some false) (depsFrom w h c (prevCell l i) (l[i] :: t) && (decide (landOk w h c) && decide ((l.length : Int) ≤ 20))) := by
        intro q
        have e : depsFrom w h c (prevCell l i) (l[i] :: t) = false := by
          simp only [depsFrom]
          by_cases d : okD w h c l[i] = true
          · have n : ¬ prevCell l i < l[i].f0 := fun x => q ⟨d, x⟩
            simp [n]
          · simp [d]
        rw [e, Bool.false_and]
        exact Ev.now _
      have st : ∀ k, spec_AreDepots.l0 (k + 1) l (i : Int) w h c = (spec_IsOpen.f k w h c l[i].f0).bind fun o => if o = true then (if decide (1 ≤ l[i].f1 ∧ l[i].f1 ≤ 10000) = true then (if prevCell l i < l[i].f0 ∨ i = 0 then spec_AreDepots.l0 k l ((i + 1 : Nat) : Int) w h c else some false) else some false) else some false := by
        intro k
        simp only [spec_AreDepots.l0, l1In_eq, Option.bind_some]
        rw [if_pos (by omega), if_pos (by omega), rdD hi, wrapSucc (by omega)]
        by_cases c1 : 0 < i
        · rw [← prevCell_pos hl (by omega) c1]
          have w1 : wrap64 ((i : Int) - 1) = ((i - 1 : Nat) : Int) := by rw [wrapId (n := (i : Int) - 1) (by omega) (by omega)]; omega
          rw [w1]
          have g1 : (i : Int) > 0 := by omega
          have g2 : (0 : Int) ≤ ((i - 1 : Nat) : Int) := by omega
          have g3 : ((i - 1 : Nat) : Int) < (l.length : Int) := by omega
          have g4 : ¬ i = 0 := by omega
          simp only [if_pos g1, if_pos g2, if_pos g3, g4, or_false]
          by_cases c2 : prevCell l i ≥ l[i].f0
          · simp only [if_pos c2, if_neg (show ¬ prevCell l i < l[i].f0 by omega)]
          · simp only [if_neg c2, if_pos (show prevCell l i < l[i].f0 by omega)]
        · have g1 : ¬ ((i : Int) > 0) := by omega
          have g4 : i = 0 := by omega
          simp only [if_neg g1, if_pos (show prevCell l i < l[i].f0 ∨ i = 0 from .inr g4)]
      refine Ev.step st (Ev.bind (spec_IsOpen_ev w h c l[i].f0) ?_)
      by_cases q0 : openOk w h c l[i].f0
      · refine evPos (decide_eq_true q0) ?_
        by_cases q2 : 1 ≤ l[i].f1 ∧ l[i].f1 ≤ 10000
        · refine evPos (decide_eq_true q2) ?_
          by_cases q1 : prevCell l i < l[i].f0 ∨ i = 0
          · refine evPos q1 ?_
            have lt : prevCell l i < l[i].f0 := by
              rcases q1 with x | x
              · exact x
              · unfold prevCell
                rw [if_pos x]
                have := q0.1.2.1
                omega
            have ok : okD w h c l[i] = true := by unfold okD; rw [decide_eq_true q0, decide_eq_true q2]; rfl
            simp only [depsFrom, ok, lt, decide_true, Bool.true_and]
            exact ih
          · exact evNeg q1 (bad (fun x => q1 (.inl x.2)))
        · refine evNeg (by rw [decide_eq_true_eq]; exact q2) (bad ?_)
          rintro ⟨x, _⟩
          unfold okD at x
          simp only [Bool.and_eq_true, decide_eq_true_eq] at x
          exact q2 x.2
      · refine evNeg (by rw [decide_eq_true_eq]; exact q0) (bad ?_)
        rintro ⟨x, _⟩
        unfold okD at x
        simp only [Bool.and_eq_true, decide_eq_true_eq] at x
        exact q0 x.1)
    () trivial
  unfold spec_AreDepots.f
  exact key

theorem spec_FoodAt_ev {l : List S66} (c : Int) (hl : l.length ≤ 100000000) : Ev (fun k => spec_FoodAt.f k l c) (foodAt c l) := by
  have key := evScan l (fun k (_ : Unit) i => spec_FoodAt.l0 k l c i) (fun _ i t => foodAt c t) (fun _ _ => True) (fun _ _ => by
      refine Ev.step (f := fun _ => some 0) (fun k => ?_) (Ev.now _)
      simp only [spec_FoodAt.l0]
      rw [if_neg (by omega)]) (fun _ i t h _ _ ih => by
      have st : ∀ k, spec_FoodAt.l0 (k + 1) l c (i : Int) = if l[i].f0 = c then some l[i].f1 else spec_FoodAt.l0 k l c ((i + 1 : Nat) : Int) := by
        intro k
        simp only [spec_FoodAt.l0]
        rw [if_pos (by omega), if_pos (by omega), rdD h, wrapSucc (by omega)]
      refine Ev.step st ?_
      simp only [foodAt]
      by_cases d : l[i].f0 = c
      · rw [if_pos d]
        exact evPos d (Ev.now _)
      · rw [if_neg d]
        exact evNeg d (ih () trivial))
    () trivial
  unfold spec_FoodAt.f
  exact key

theorem spec_l8Set_ev {l : List S66} (cell food : Int) (hl : l.length ≤ 100000000) : Ev (fun k => spec_l8Set.f k l cell food) (set8 cell food (food == 0) l) := by
  have key := evScan l (fun k (s : List S66 × Bool) i => spec_l8Set.l0 k l cell food s.1 s.2 i) (fun s _ t => s.1 ++ set8 cell food s.2 t) (fun s i => s.1.length ≤ 2 * i) (fun s hs => by
      obtain ⟨x, b⟩ := s
      dsimp only at hs ⊢
      cases b with
      | true =>
        simp only [set8, List.append_nil]
        refine Ev.step (f := fun _ => some x) (fun k => ?_) (Ev.now _)
        simp only [spec_l8Set.l0, if_true]
        rw [if_neg (by omega)]
      | false =>
        simp only [set8]
        refine Ev.step (f := fun _ => some (x ++ [⟨cell, food⟩])) (fun k => ?_) (Ev.now _)
        simp only [spec_l8Set.l0, Bool.false_eq_true, if_false]
        rw [if_neg (by omega), if_pos (by omega)]) (fun s i t h ht hs ih => by
      obtain ⟨x, b⟩ := s
      dsimp only at hs ⊢
      have skip : ∀ (y : List S66) (q : Bool), y.length ≤ 2 * i + 1 → Ev (fun k => spec_l8Set.l0 k l cell food (if l[i].f0 = cell then y else y ++ [l[i]]) q ((i + 1 : Nat) : Int)) (y ++ (if l[i].f0 = cell then set8 cell food q t else l[i] :: set8 cell food q t)) := by
        intro y q hy
        by_cases c : l[i].f0 = cell
        · rw [if_pos c, if_pos c]
          exact ih (y, q) (by dsimp only; omega)
        · rw [if_neg c, if_neg c]
          have := ih (y ++ [l[i]], q) (by simp; omega)
          dsimp only at this
          rwa [List.append_assoc, List.singleton_append] at this
      have jf : ∀ k, spec_l8Set.j1 (k + 1) l cell food x b (i : Int) false = spec_l8Set.l0 k l cell food (if l[i].f0 = cell then x else x ++ [l[i]]) b ((i + 1 : Nat) : Int) := by
        intro k
        simp only [spec_l8Set.j1, Bool.false_eq_true, if_false]
        rw [if_pos (by omega), if_pos (by omega), rdD h, wrapSucc (by omega)]
        simp only [if_pos (show x.length < 8796093022208 by omega)]
        by_cases c : l[i].f0 = cell
        · rw [if_pos c, if_pos c]
        · rw [if_neg c, if_neg c]
      cases b with
      | true =>
        refine Ev.step (f := fun k => spec_l8Set.j1 k l cell food x true (i : Int) false) (fun k => ?_) (Ev.step jf ?_)
        · simp only [spec_l8Set.l0, if_true]
          rw [if_pos (by omega)]
        · simp only [set8]
          exact skip x true (by omega)
      | false =>
        refine Ev.step (f := fun k => spec_l8Set.j1 k l cell food x false (i : Int) (decide (l[i].f0 ≥ cell))) (fun k => ?_) ?_
        · simp only [spec_l8Set.l0, Bool.false_eq_true, if_false]
          rw [if_pos (by omega), if_pos (by omega), rdD h]
        · by_cases g : l[i].f0 ≥ cell
          · rw [decide_eq_true g]
            refine Ev.step (f := fun k => spec_l8Set.l0 k l cell food (if l[i].f0 = cell then x ++ [⟨cell, food⟩] else x ++ [⟨cell, food⟩] ++ [l[i]]) true ((i + 1 : Nat) : Int)) (fun k => ?_) ?_
            · simp only [spec_l8Set.j1, if_true]
              rw [if_pos (by omega)]
              simp only [Option.bind_some]
              rw [if_pos (by omega), if_pos (by omega), rdD h, wrapSucc (by omega)]
              simp only [if_pos (show (x ++ [(⟨cell, food⟩ : S66)]).length < 8796093022208 by rw [List.length_append, List.length_singleton]; omega)]
              by_cases c : l[i].f0 = cell
              · rw [if_pos c, if_pos c]
              · rw [if_neg c, if_neg c]
            · simp only [set8, if_pos g]
              have := skip (x ++ [⟨cell, food⟩]) true (by simp; omega)
              simpa only [List.append_assoc, List.singleton_append, List.cons_append, List.nil_append] using this
          · rw [decide_eq_false g]
            have ne : ¬ l[i].f0 = cell := by omega
            refine Ev.step jf ?_
            simp only [set8, if_neg g]
            have := skip x false (by omega)
            simpa only [if_neg ne] using this)
    ([], (food == 0)) (by simp)
  unfold spec_l8Set.f
  simpa using key

theorem spec_Lay_ev {l : List S66} (w h : Int) (c : List Int) (cell n : Int) (hl : l.length ≤ 10000000) : Ev (fun k => spec_Lay.f k w h c l cell n) (layRes w h c l cell n) := by
  have no : ¬ (areDeps w h c l = true ∧ (1 ≤ n ∧ n ≤ 10000)) → Ev (fun k => spec_Lay.j0 k l cell n l true w h c) (layRes w h c l cell n) := by
    intro q
    unfold layRes
    rw [if_neg q]
    refine Ev.step (f := fun _ => some (l, false)) (fun k => ?_) (Ev.now _)
    simp only [spec_Lay.j0, if_true]
  unfold spec_Lay.f
  simp only [Option.bind_some, List.length_nil, Nat.zero_add, List.nil_append]
  refine evPos (show l.length < 8796093022208 by omega) ?_
  refine Ev.bind (spec_AreDepots_ev w h c (by omega)) ?_
  by_cases a : areDeps w h c l = true
  · refine evPos a ?_
    simp only [l1In_eq, Option.bind_some]
    by_cases b : 1 ≤ n ∧ n ≤ 10000
    · rw [decide_eq_true b, Bool.not_true]
      have a' := a
      unfold areDeps at a'
      simp only [Bool.and_eq_true] at a'
      have fb : 0 ≤ foodAt cell l ∧ foodAt cell l ≤ 10000 := by
        rcases foodAt_mem (cell := cell) (l := l) with q | ⟨d, hd, _, q⟩
        · omega
        · have := depsFrom_food a'.1 d hd
          omega
      unfold layRes
      rw [if_pos ⟨a, b⟩]
      refine Ev.step (fun k => rfl) ?_
      simp only [spec_Lay.j0, Bool.false_eq_true, if_false]
      refine Ev.bind (spec_FoodAt_ev cell (by omega)) ?_
      rw [wrapId (n := foodAt cell l + n) (by omega) (by omega)]
      refine Ev.bind (spec_l8Set_ev cell (foodAt cell l + n) (by omega)) ?_
      have hy := layL_len cell n l
      rw [beq_eq_false_iff_ne.2 (show foodAt cell l + n ≠ 0 by omega), ← lay_set8 a'.1]
      refine Ev.bind (spec_AreDepots_ev w h c (by omega)) ?_
      by_cases g : areDeps w h c (layL cell n l) = true
      · simp only [if_pos g]
        exact Ev.now _
      · simp only [if_neg g]
        exact Ev.now _
    · rw [decide_eq_false b, Bool.not_false]
      exact no (fun x => b x.2)
  · exact evNeg a (no (fun x => a x.1))

def markD (q : Int) (i : Nat) : S66 := ⟨q + 2 * (i : Int), q + 2 * (i : Int) + 1⟩
def marksD (q : Int) (n : Nat) : List S66 := (List.range n).map (markD q)
theorem marksD_length (q : Int) (n : Nat) : (marksD q n).length = n := by simp [marksD]
theorem marksD_at (q : Int) (n i : Nat) (h : i < (marksD q n).length) : (marksD q n)[i] = markD q i := by simp [marksD]
theorem rdDset {xs : List S66} {i : Nat} (v : S66) (h : i < xs.length) : rd_T66 (xs.set i v) (i : Int) = v := by
  rw [rdD (by simpa using h), List.getElem_set_self]
theorem markDepotS_ev {l : List S66} {q : Int} (hl : l.length ≤ 2000000) (h0 : 0 ≤ q) (h1 : q ≤ 1000000000000) : Ev (fun k => laws_markDepotS.f k l q) (q + 2 * (l.length : Int), marksD q l.length) := by
  have key := evScan l (fun k (s : List S66 × Int) i => laws_markDepotS.l0 k s.1 s.2 i) (fun _ _ _ => (q + 2 * (l.length : Int), marksD q l.length)) (fun s i => s.1.length = l.length ∧ s.1.take i = (marksD q l.length).take i ∧ s.2 = q + 2 * (i : Int)) (fun s ⟨g0, g1, g2⟩ => by
      refine Ev.step (f := fun _ => some (s.2, s.1)) (fun k => ?_) ?_
      · simp only [laws_markDepotS.l0]
        rw [if_neg (by omega)]
      · have : s.1 = marksD q l.length := take_whole (by rw [marksD_length]; exact g0) (by rw [marksD_length]; exact g1)
        rw [this, g2]
        exact Ev.now _) (fun s i t h _ ⟨g0, g1, g2⟩ ih => by
      have hs : i < (marksD q l.length).length := by rw [marksD_length]; exact h
      have e := take_set_succ hs (by rw [marksD_length]; exact g0) g1
      rw [marksD_at] at e
      have g3 : i < s.1.length := by omega
      refine Ev.step (fun k => ?_) (ih (s.1.set i (markD q i), q + 2 * (i : Int) + 1 + 1) ⟨by simpa using g0, e, by simp only [Int.natCast_add]; omega⟩)
      simp only [laws_markDepotS.l0, Option.bind_some, toNatCast, rdDset _ g3, List.set_set, g2]
      rw [if_pos (by omega), if_pos (by omega), wrapSucc (by omega), wrapId (n := q + 2 * (i : Int) + 1) (by omega) (by omega), wrapId (n := q + 2 * (i : Int) + 1 + 1) (by omega) (by omega)]
      rfl)
    (l, q) ⟨rfl, by simp, by simp⟩
  unfold laws_markDepotS.f
  exact key
theorem heldDepotS_ev {n : Nat} {q : Int} (hl : n ≤ 2000000) (h0 : 0 ≤ q) (h1 : q ≤ 1000000000000) : Ev (fun k => laws_heldDepotS.f k (marksD q n) q) (q + 2 * (n : Int)) := by
  have key := evScan (marksD q n) (fun k (s : Int) i => laws_heldDepotS.l0 k (marksD q n) s i) (fun _ _ _ => q + 2 * (n : Int)) (fun s i => s = q + 2 * (i : Int)) (fun s g => by
      refine Ev.step (f := fun _ => some s) (fun k => ?_) ?_
      · simp only [laws_heldDepotS.l0]
        rw [if_neg (by omega)]
      · rw [g, marksD_length]
        exact Ev.now _) (fun s i t h _ g ih => by
      have hn : i < n := by rw [marksD_length] at h; exact h
      refine Ev.step (fun k => ?_) (ih (q + 2 * (i : Int) + 1 + 1) (by simp only [Int.natCast_add]; omega))
      simp only [laws_heldDepotS.l0]
      rw [if_pos (by omega), if_pos (by omega), rdD h, marksD_at, g, wrapSucc (by omega), wrapId (n := q + 2 * (i : Int) + 1) (by omega) (by omega), wrapId (n := q + 2 * (i : Int) + 1 + 1) (by omega) (by omega)]
      simp [markD])
    q (by simp)
  unfold laws_heldDepotS.f
  exact key

def okS83 (x : S83) : Prop := (Lit.int .i64 x.f0).wf = true ∧ (Lit.int .i64 x.f1).wf = true
def FnExactLay.Claim : Prop := ∀ (a0_0 : Int) (a0_1 : Int) (l0_2 : List (Int)) (l1 : List (S83)) (a2 : Int) (a3 : Int), (Lit.int .i64 a0_0).wf = true → (Lit.int .i64 a0_1).wf = true → l0_2.length ≤ maxLen → (∀ x ∈ l0_2, (Lit.int .i64 x).wf = true) → l1.length ≤ maxLen → (∀ x ∈ l1, okS83 x) → (Lit.int .i64 a2).wf = true → (Lit.int .i64 a3).wf = true → ∃ k, laws_FnExactLay.f k a0_0 a0_1 l0_2 l1 a2 a3 = some true
theorem FnExactLay : FnExactLay.Claim := by
  intro w h c l cell n _ _ hc _ hm _ _ hn
  apply Ev.rounds
  unfold laws_FnExactLay.f
  rw [szLand_ok hc (by omega) (by omega)]
  simp only [Option.bind_some]
  by_cases qc : (c.length : Int) ≤ 1048576
  · rw [if_pos qc]
    refine evNeg (by omega) ?_
    rw [szDepotS_ok hm (by omega) (by omega)]
    simp only [Option.bind_some]
    by_cases ql : (l.length : Int) ≤ 1048576 - (c.length : Int)
    · rw [if_pos ql]
      refine evNeg (by omega) ?_
      have hcl : c.length ≤ 1048576 := by omega
      have hl : l.length ≤ 1048576 := by omega
      have hl' : (l.map dep).length ≤ 1048576 := by rw [List.length_map]; exact hl
      have h8 : (l.map dep).length ≤ 10000000 := by omega
      have hr : (layRes w h c (l.map dep) cell n).1.length ≤ 2000000 := Nat.le_trans (layRes_len _ _ _ _ _ _) (by omega)
      refine Ev.bind (toLand_ev hcl) (Ev.bind (toDepotS_ev hl) (Ev.bind (spec_Lay_ev w h c cell n h8) (Ev.bind (toLand_ev hcl) (Ev.bind (toDepotS_ev hl) (Ev.bind (impl_Lay_ev w h c cell n h8) (Ev.bind (eqDepotS_same hr) (evPos rfl ?_)))))))
      refine Ev.step (fun k => rfl) ?_
      simp only [laws_FnExactLay.j0, bne_self_eq_false, Bool.false_eq_true, if_false]
      refine Ev.bind (toLand_ev hcl) (Ev.bind (eqLand_same hcl) (evPos rfl (Ev.bind (toDepotS_ev hl) (Ev.bind (eqDepotS_same (by omega)) (evPos rfl ?_)))))
      refine Ev.bind (markLand_ev hcl (by omega) (by omega)) (Ev.bind (markDepotS_ev (by omega) (by dsimp only; omega) (by dsimp only; omega)) (evNeg (by dsimp only; omega) (Ev.bind (eqDepotS_same hr) (evPos rfl ?_))))
      refine Ev.step (fun k => rfl) ?_
      simp only [laws_FnExactLay.j1, Bool.false_eq_true, if_false]
      refine Ev.bind (markDepotS_ev hr (by omega) (by omega)) (Ev.bind (heldDepotS_ev hr (by omega) (by omega)) (evNeg (by omega) (evPos rfl ?_)))
      refine Ev.bind (toLand_ev hcl) (Ev.bind (toDepotS_ev hl) (Ev.bind (impl_Lay_ev w h c cell n h8) (Ev.bind (eqDepotS_same hr) (evPos rfl ?_))))
      refine Ev.step (fun k => rfl) ?_
      simp only [laws_FnExactLay.j2, bne_self_eq_false, Bool.false_eq_true, if_false]
      exact Ev.bind (heldDepotS_ev hr (by omega) (by omega)) (evNeg (by omega) (evPos rfl (Ev.now _)))
    · rw [if_neg ql]
      exact evPos (by omega) (Ev.now _)
  · rw [if_neg qc]
    exact evPos (by omega) (Ev.now _)
end Go.Proofs.Ytdgpnmbmnnmdcaa.Pure
