/- The law Depots: whatever the bytes of the draw: what is laid can be taken, and nothing else changes: the law's Go function answers true. No condition beyond the kinds of the numbers. -/
import Derived.Test.YtdgpnmbmnnmdcaaPFnDepotsx13
import Derived.Test.YtdgpnmbmnnmdcaaAid
import Derived.Laws.BitsLemmas
namespace Go.Proofs.Ytdgpnmbmnnmdcaa.Pure
open Go.RowKit Go.Proofs.Ytdgpnmbmnnmdcaa.PFnDepots Go.Proofs.Ytdgpnmbmnnmdcaa.Aid Go.Proofs.YtdgpnmbmnnmdcaaW.PrintWords Go.Proofs.YtdgpnmbmnnmdcaaW.PrintLast Go.Proofs.YtdgpnmbmnnmdcaaW.PrintMore
set_option linter.unusedVariables false
set_option linter.unusedSimpArgs false
theorem inRange_eq (a b c : Int) : impl_InRange.f a b c = some (decide (b ≤ a ∧ a ≤ c)) := by
  unfold impl_InRange.f
  by_cases h : b ≤ a
  · rw [if_pos h]
    simp [h]
  · rw [if_neg h]
    simp [h]

def inB (lo hi : Int) (l : List Int) : Bool := l.all (fun x => decide (lo ≤ x ∧ x ≤ hi))
theorem inB_iff {lo hi : Int} {l : List Int} : inB lo hi l = true ↔ ∀ x ∈ l, lo ≤ x ∧ x ≤ hi := by
  unfold inB
  simp only [List.all_eq_true, decide_eq_true_eq]
theorem inB_yes {lo hi x : Int} {t : List Int} (d : lo ≤ x ∧ x ≤ hi) : inB lo hi (x :: t) = inB lo hi t := by
  simp only [inB, List.all_cons, d, and_self, decide_true, Bool.true_and]
theorem inB_no {lo hi x : Int} {t : List Int} (d : ¬ (lo ≤ x ∧ x ≤ hi)) : inB lo hi (x :: t) = false := by
  simp only [inB, List.all_cons, d, decide_false, Bool.false_and]
/-- A land: its sides, its cells. -/
def landOk (w h : Int) (c : List Int) : Prop := ((1 ≤ w ∧ w ≤ 8) ∧ (1 ≤ h ∧ h ≤ 8)) ∧ (c.length : Int) = w * h ∧ ∀ x ∈ c, 0 ≤ x ∧ x ≤ 2
instance (w h : Int) (c : List Int) : Decidable (landOk w h c) := inferInstanceAs (Decidable (_ ∧ _))
def cellOk (w h : Int) (c : List Int) (n : Int) : Prop := landOk w h c ∧ 0 ≤ n ∧ n < (c.length : Int)
instance (w h : Int) (c : List Int) (n : Int) : Decidable (cellOk w h c n) := inferInstanceAs (Decidable (_ ∧ _))
def openOk (w h : Int) (c : List Int) (n : Int) : Prop := cellOk w h c n ∧ rd c n ≠ 2
instance (w h : Int) (c : List Int) (n : Int) : Decidable (openOk w h c n) := inferInstanceAs (Decidable (_ ∧ _))
theorem sideB {w h : Int} (hw : 1 ≤ w ∧ w ≤ 8) (hh : 1 ≤ h ∧ h ≤ 8) : 1 ≤ w * h ∧ w * h ≤ 64 := by
  have h0 : 1 * 1 ≤ w * h := Int.mul_le_mul hw.1 hh.1 (by omega) (by omega)
  have h1 : w * h ≤ 8 * 8 := Int.mul_le_mul hw.2 hh.2 (by omega) (by omega)
  omega
theorem landOk.len {w h : Int} {c : List Int} (x : landOk w h c) : 1 ≤ c.length ∧ c.length ≤ 64 := by
  have := sideB x.1.1 x.1.2
  have := x.2.1
  omega

theorem allIn_ev {l : List Int} (lo hi : Int) (hl : l.length ≤ 100000000) : Ev (fun k => impl_allIn.f k l lo hi) (inB lo hi l) := by
  have key := evScan l (fun k (_ : Unit) i => impl_allIn.l0 k lo hi l (l.length : Int) i) (fun _ _ t => inB lo hi t) (fun _ _ => True) (fun _ _ => by
      rw [show inB lo hi [] = true from rfl]
      refine Ev.step (f := fun _ => some true) (fun k => ?_) (Ev.now _)
      simp only [impl_allIn.l0]
      rw [if_neg (by omega)]) (fun _ i t h _ _ ih => by
      have st : ∀ k, impl_allIn.l0 (k + 1) lo hi l (l.length : Int) (i : Int) = if decide (lo ≤ l[i] ∧ l[i] ≤ hi) = true then impl_allIn.l0 k lo hi l (l.length : Int) ((i + 1 : Nat) : Int) else some false := by
        intro k
        simp only [impl_allIn.l0, inRange_eq, Option.bind_some]
        rw [if_pos (by omega), if_pos (by omega), if_pos (by omega), rdIn h, wrapSucc (by omega)]
      refine Ev.step st ?_
      by_cases d : lo ≤ l[i] ∧ l[i] ≤ hi
      · refine evPos (decide_eq_true d) ?_
        rw [inB_yes d]
        exact ih () trivial
      · refine evNeg (by rw [decide_eq_true_eq]; exact d) ?_
        rw [inB_no d]
        exact Ev.now _)
    () trivial
  unfold impl_allIn.f
  exact key
theorem impl_IsLand_ev (w h : Int) (c : List Int) : Ev (fun k => impl_IsLand.f k w h c) (decide (landOk w h c)) := by
  unfold impl_IsLand.f
  simp only [inRange_eq, Option.bind_some]
  by_cases c0 : 1 ≤ w ∧ w ≤ 8
  · refine evPos (decide_eq_true c0) ?_
    by_cases c1 : 1 ≤ h ∧ h ≤ 8
    · have sb := sideB c0 c1
      refine evPos (decide_eq_true c1) ?_
      rw [wrapId (n := w * h) (by omega) (by omega)]
      by_cases c2 : (c.length : Int) = w * h
      · refine evPos c2 (Ev.bind (allIn_ev 0 2 (by omega)) ?_)
        rw [show decide (landOk w h c) = inB 0 2 c by rw [Bool.eq_iff_iff, decide_eq_true_eq, inB_iff]; exact ⟨fun x => x.2.2, fun x => ⟨⟨c0, c1⟩, c2, x⟩⟩]
        exact Ev.now _
      · rw [decide_eq_false (fun x : landOk w h c => c2 x.2.1)]
        exact evNeg c2 (Ev.now _)
    · rw [decide_eq_false (fun x : landOk w h c => c1 x.1.2)]
      exact evNeg (by rw [decide_eq_true_eq]; exact c1) (Ev.now _)
  · rw [decide_eq_false (fun x : landOk w h c => c0 x.1.1)]
    exact evNeg (by rw [decide_eq_true_eq]; exact c0) (Ev.now _)
theorem impl_IsCell_ev (w h : Int) (c : List Int) (n : Int) : Ev (fun k => impl_IsCell.f k w h c n) (decide (cellOk w h c n)) := by
  unfold impl_IsCell.f
  refine Ev.bind (impl_IsLand_ev w h c) ?_
  by_cases q : landOk w h c
  · refine evPos (decide_eq_true q) ?_
    have := q.len
    simp only [inRange_eq, Option.bind_some]
    rw [wrapId (n := (c.length : Int) - 1) (by omega) (by omega), show decide (cellOk w h c n) = decide (0 ≤ n ∧ n ≤ (c.length : Int) - 1) by rw [decide_eq_decide]; exact ⟨fun x => ⟨x.2.1, by have := x.2.2; omega⟩, fun x => ⟨q, x.1, by omega⟩⟩]
    exact Ev.now _
  · rw [decide_eq_false (fun x : cellOk w h c n => q x.1)]
    exact evNeg (by rw [decide_eq_true_eq]; exact q) (Ev.now _)

theorem impl_IsOpen_ev (w h : Int) (c : List Int) (n : Int) : Ev (fun k => impl_IsOpen.f k w h c n) (decide (openOk w h c n)) := by
  unfold impl_IsOpen.f
  refine Ev.bind (impl_IsCell_ev w h c n) ?_
  by_cases q : cellOk w h c n
  · refine evPos (decide_eq_true q) (evPos q.2.1 (evPos q.2.2 ?_))
    rw [show decide (openOk w h c n) = (rd c n != 2) by rw [Bool.eq_iff_iff, decide_eq_true_eq, bne_iff_ne]; exact ⟨fun x => x.2, fun x => ⟨q, x⟩⟩]
    exact Ev.now _
  · rw [decide_eq_false (fun x : openOk w h c n => q x.1)]
    exact evNeg (by rw [decide_eq_true_eq]; exact q) (Ev.now _)

theorem rdD {xs : List S66} {i : Nat} (h : i < xs.length) : rd_T66 xs (i : Int) = xs[i] := by
  unfold rd_T66
  rw [Int.toNat_natCast, getD_lt h]

def okD (w h : Int) (c : List Int) (d : S66) : Bool := decide (openOk w h c d.f0) && decide (1 ≤ d.f1 ∧ d.f1 ≤ 10000)
/-- Depots of a land, behind one at the cell p. -/
def depsFrom (w h : Int) (c : List Int) : Int → List S66 → Bool
  | _, [] => true
  | p, d :: t => okD w h c d && (decide (p < d.f0) && depsFrom w h c d.f0 t)
def areDeps (w h : Int) (c : List Int) (l : List S66) : Bool := depsFrom w h c (-1) l && (decide (landOk w h c) && decide ((l.length : Int) ≤ 20))
def prevCell (l : List S66) (i : Nat) : Int := if i = 0 then -1 else (l.getD (i - 1) z66).f0
theorem prevCell_succ {l : List S66} {i : Nat} (h : i < l.length) : prevCell l (i + 1) = l[i].f0 := by
  unfold prevCell
  rw [if_neg (by omega), Nat.add_sub_cancel, getD_lt h]
theorem prevCell_pos {l : List S66} {i : Nat} (hl : l.length ≤ 100000000) (h : i ≤ l.length) (h0 : 0 < i) : prevCell l i = (rd_T66 l (wrap64 ((i : Int) - 1))).f0 := by
  rw [wrapId (n := (i : Int) - 1) (by omega) (by omega), show ((i : Int) - 1) = ((i - 1 : Nat) : Int) by omega, rdD (by omega)]
  unfold prevCell
  rw [if_neg (by omega), getD_lt (by omega)]
theorem okD_cell {w h : Int} {c : List Int} {d : S66} (e : okD w h c d = true) : 0 ≤ d.f0 := by
  unfold okD at e
  simp only [Bool.and_eq_true, decide_eq_true_eq] at e
  exact e.1.1.2.1

theorem impl_AreDepots_ev {l : List S66} (w h : Int) (c : List Int) (hl : l.length ≤ 100000000) : Ev (fun k => impl_AreDepots.f k w h c l) (areDeps w h c l) := by
  have key := evScan l (fun k (_ : Unit) i => impl_AreDepots.l0 k l l (l.length : Int) i w h c) (fun _ i t => depsFrom w h c (prevCell l i) t && (decide (landOk w h c) && decide ((l.length : Int) ≤ 20))) (fun _ _ => True) (fun _ _ => by
      refine Ev.step (f := fun k => (impl_IsLand.f k w h c).bind fun t => if t = true then some (decide ((l.length : Int) ≤ 20)) else some false) (fun k => ?_) (Ev.bind (impl_IsLand_ev w h c) ?_)
      · simp only [impl_AreDepots.l0]
        rw [if_neg (by omega)]
      · simp only [depsFrom, Bool.true_and]
        by_cases q : landOk w h c
        · rw [decide_eq_true q, Bool.true_and]
          exact evPos rfl (Ev.now _)
        · rw [decide_eq_false q, Bool.false_and]
          exact evNeg (by decide) (Ev.now _)) (fun _ i t hi ht _ ih => by
      have ih := ih () trivial
      rw [prevCell_succ hi] at ih
      have bad : ∀ (q : ¬ (okD w h c l[i] = true ∧ prevCell l i < l[i].f0)), Ev (fun _ => some false) (depsFrom w h c (prevCell l i) (l[i] :: t) && (decide (landOk w h c) && decide ((l.length : Int) ≤ 20))) := by
        intro q
        have e : depsFrom w h c (prevCell l i) (l[i] :: t) = false := by
          simp only [depsFrom]
          by_cases d : okD w h c l[i] = true
          · have n : ¬ prevCell l i < l[i].f0 := fun x => q ⟨d, x⟩
            simp [n]
          · simp [d]
        rw [e, Bool.false_and]
        exact Ev.now _
      have st : ∀ k, impl_AreDepots.l0 (k + 1) l l (l.length : Int) (i : Int) w h c = (impl_IsOpen.f k w h c l[i].f0).bind fun o => if o = true then (if prevCell l i < l[i].f0 ∨ i = 0 then (if decide (1 ≤ l[i].f1 ∧ l[i].f1 ≤ 10000) = true then impl_AreDepots.l0 k l l (l.length : Int) ((i + 1 : Nat) : Int) w h c else some false) else some false) else some false := by
        intro k
        simp only [impl_AreDepots.l0, inRange_eq, Option.bind_some]
        rw [if_pos (by omega), if_pos (by omega), if_pos (by omega), rdD hi, wrapSucc (by omega)]
        by_cases c1 : 0 < i
        · rw [← prevCell_pos hl (by omega) c1]
          have w1 : wrap64 ((i : Int) - 1) = ((i - 1 : Nat) : Int) := by rw [wrapId (n := (i : Int) - 1) (by omega) (by omega)]; omega
          rw [w1]
          have g1 : (i : Int) > 0 := by omega
          have g2 : (0 : Int) ≤ ((i - 1 : Nat) : Int) := by omega
          have g3 : ((i - 1 : Nat) : Int) < (l.length : Int) := by omega
          have g4 : ¬ i = 0 := by omega
          simp only [if_pos g1, if_pos g2, if_pos g3, g4, or_false]
          by_cases c2 : l[i].f0 ≤ prevCell l i
          · simp only [if_pos c2, if_neg (show ¬ prevCell l i < l[i].f0 by omega)]
          · simp only [if_neg c2, if_pos (show prevCell l i < l[i].f0 by omega)]
        · have g1 : ¬ ((i : Int) > 0) := by omega
          have g4 : i = 0 := by omega
          simp only [if_neg g1, if_pos (show prevCell l i < l[i].f0 ∨ i = 0 from .inr g4)]
      refine Ev.step st (Ev.bind (impl_IsOpen_ev w h c l[i].f0) ?_)
      by_cases q0 : openOk w h c l[i].f0
      · refine evPos (decide_eq_true q0) ?_
        by_cases q1 : prevCell l i < l[i].f0 ∨ i = 0
        · refine evPos q1 ?_
          have lt : prevCell l i < l[i].f0 := by
            rcases q1 with x | x
            · exact x
            · unfold prevCell
              rw [if_pos x]
              have := q0.1.2.1
              omega
          by_cases q2 : 1 ≤ l[i].f1 ∧ l[i].f1 ≤ 10000
          · refine evPos (decide_eq_true q2) ?_
            have ok : okD w h c l[i] = true := by unfold okD; rw [decide_eq_true q0, decide_eq_true q2]; rfl
            simp only [depsFrom, ok, lt, decide_true, Bool.true_and]
            exact ih
          · refine evNeg (by rw [decide_eq_true_eq]; exact q2) (bad ?_)
            rintro ⟨x, _⟩
            unfold okD at x
            simp only [Bool.and_eq_true, decide_eq_true_eq] at x
            exact q2 x.2
        · exact evNeg q1 (bad (fun x => q1 (.inl x.2)))
      · refine evNeg (by rw [decide_eq_true_eq]; exact q0) (bad ?_)
        rintro ⟨x, _⟩
        unfold okD at x
        simp only [Bool.and_eq_true, decide_eq_true_eq] at x
        exact q0 x.1)
    () trivial
  unfold impl_AreDepots.f
  exact key

def foodAt (c : Int) : List S66 → Int
  | [] => 0
  | d :: t => if d.f0 = c then d.f1 else foodAt c t

/-- What is left of the depots where n is taken from a cell. -/
def takeL (cell n : Int) : List S66 → List S66
  | [] => []
  | d :: t => if d.f0 = cell then (if d.f1 - n > 0 then (⟨d.f0, d.f1 - n⟩ : S66) :: takeL cell n t else takeL cell n t) else (if d.f1 > 0 then d :: takeL cell n t else takeL cell n t)
theorem takeL_len (cell n : Int) : ∀ l : List S66, (takeL cell n l).length ≤ l.length
  | [] => Nat.le_refl _
  | d :: t => by
    have := takeL_len cell n t
    simp only [takeL, List.length_cons]
    split
    · split <;> (try simp only [List.length_cons]) <;> omega
    · split <;> (try simp only [List.length_cons]) <;> omega
def takeRes (w h : Int) (c : List Int) (l : List S66) (cell n : Int) : List S66 × Bool := if areDeps w h c l = true ∧ (1 ≤ n ∧ n ≤ foodAt cell l) then (takeL cell n l, true) else (l, false)
theorem takeRes_len (w h : Int) (c : List Int) (l : List S66) (cell n : Int) : (takeRes w h c l cell n).1.length ≤ l.length := by
  unfold takeRes
  split
  · exact takeL_len cell n l
  · exact Nat.le_refl _
theorem depsFrom_food {w h : Int} {c : List Int} : ∀ {l : List S66} {p : Int}, depsFrom w h c p l = true → ∀ d ∈ l, 1 ≤ d.f1 ∧ d.f1 ≤ 10000
  | [], _, _, d, hd => by cases hd
  | x :: t, p, e, d, hd => by
    simp only [depsFrom, Bool.and_eq_true] at e
    rcases List.mem_cons.1 hd with rfl | hd
    · have := e.1
      unfold okD at this
      simp only [Bool.and_eq_true, decide_eq_true_eq] at this
      exact this.2
    · exact depsFrom_food e.2.2 d hd
theorem depsFrom_far {w h : Int} {c : List Int} : ∀ {l : List S66} {p cell : Int}, depsFrom w h c p l = true → cell ≤ p → ∀ d ∈ l, d.f0 ≠ cell
  | [], _, _, _, _, d, hd => by cases hd
  | x :: t, p, cell, e, hp, d, hd => by
    simp only [depsFrom, Bool.and_eq_true, decide_eq_true_eq] at e
    rcases List.mem_cons.1 hd with rfl | hd
    · omega
    · exact depsFrom_far e.2.2 (by omega) d hd
theorem foodAt_none {cell : Int} : ∀ {l : List S66}, (∀ d ∈ l, d.f0 ≠ cell) → foodAt cell l = 0
  | [], _ => rfl
  | x :: t, h => by
    simp only [foodAt]
    rw [if_neg (h x List.mem_cons_self)]
    exact foodAt_none (fun d hd => h d (List.mem_cons_of_mem _ hd))
theorem foodAt_mem {cell : Int} : ∀ {l : List S66}, foodAt cell l = 0 ∨ ∃ d ∈ l, d.f0 = cell ∧ foodAt cell l = d.f1
  | [] => .inl rfl
  | x :: t => by
    simp only [foodAt]
    by_cases e : x.f0 = cell
    · rw [if_pos e]
      exact .inr ⟨x, List.mem_cons_self, e, rfl⟩
    · rw [if_neg e]
      rcases foodAt_mem (cell := cell) (l := t) with q | ⟨d, hd, q⟩
      · exact .inl q
      · exact .inr ⟨d, List.mem_cons_of_mem _ hd, q⟩
theorem takeL_none {cell n : Int} : ∀ {l : List S66}, (∀ d ∈ l, d.f0 ≠ cell) → (∀ d ∈ l, 1 ≤ d.f1 ∧ d.f1 ≤ 10000) → takeL cell n l = l
  | [], _, _ => rfl
  | x :: t, h, f => by
    simp only [takeL]
    rw [if_neg (h x List.mem_cons_self), if_pos (by have := f x List.mem_cons_self; omega), takeL_none (fun d hd => h d (List.mem_cons_of_mem _ hd)) (fun d hd => f d (List.mem_cons_of_mem _ hd))]

/-- The depots with so much food at a cell; done: the cell has been met, or nothing is to be laid. -/
def set8 (cell food : Int) : Bool → List S66 → List S66
  | true, [] => []
  | false, [] => [⟨cell, food⟩]
  | true, d :: t => if d.f0 = cell then set8 cell food true t else d :: set8 cell food true t
  | false, d :: t => if d.f0 ≥ cell then (⟨cell, food⟩ : S66) :: (if d.f0 = cell then set8 cell food true t else d :: set8 cell food true t) else d :: set8 cell food false t
theorem set8_len (cell food : Int) : ∀ (l : List S66) (b : Bool), (set8 cell food b l).length ≤ l.length + 1
  | [], true => by simp [set8]
  | [], false => by simp [set8]
  | d :: t, true => by
    have := set8_len cell food t true
    simp only [set8]
    split <;> simp only [List.length_cons] <;> omega
  | d :: t, false => by
    have h0 := set8_len cell food t true
    have h1 := set8_len cell food t false
    simp only [set8]
    have h2 : (set8 cell food true t).length ≤ t.length := by
      have : ∀ s : List S66, (set8 cell food true s).length ≤ s.length := by
        intro s
        induction s with
        | nil => simp [set8]
        | cons y s ih =>
          simp only [set8]
          split <;> simp only [List.length_cons] <;> omega
      exact this t
    split
    · split <;> (try simp only [List.length_cons]) <;> omega
    · simp only [List.length_cons]
      omega
theorem set8_none {cell food : Int} : ∀ {l : List S66}, (∀ d ∈ l, d.f0 ≠ cell) → set8 cell food true l = l
  | [], _ => rfl
  | x :: t, h => by
    simp only [set8]
    rw [if_neg (h x List.mem_cons_self), set8_none (fun d hd => h d (List.mem_cons_of_mem _ hd))]

/-- The depots where n more is laid at a cell. -/
def layL (cell n : Int) : List S66 → List S66
  | [] => [⟨cell, n⟩]
  | d :: t => if d.f0 < cell then d :: layL cell n t else if d.f0 = cell then (⟨d.f0, d.f1 + n⟩ : S66) :: t else (⟨cell, n⟩ : S66) :: d :: t
theorem layL_len (cell n : Int) : ∀ l : List S66, (layL cell n l).length ≤ l.length + 1
  | [] => by simp [layL]
  | d :: t => by
    have := layL_len cell n t
    simp only [layL]
    split
    · simp only [List.length_cons]
      omega
    · split <;> simp only [List.length_cons] <;> omega
def layRes (w h : Int) (c : List Int) (l : List S66) (cell n : Int) : List S66 × Bool := if areDeps w h c l = true ∧ (1 ≤ n ∧ n ≤ 10000) then (if areDeps w h c (layL cell n l) = true then (layL cell n l, true) else (l, false)) else (l, false)
theorem layRes_len (w h : Int) (c : List Int) (l : List S66) (cell n : Int) : (layRes w h c l cell n).1.length ≤ l.length + 1 := by
  unfold layRes
  split
  · split
    · exact layL_len cell n l
    · exact Nat.le_succ _
  · exact Nat.le_succ _
theorem lay_set8 {w h : Int} {c : List Int} {cell n : Int} : ∀ {l : List S66} {p : Int}, depsFrom w h c p l = true → layL cell n l = set8 cell (foodAt cell l + n) false l
  | [], _, _ => by simp [layL, set8, foodAt]
  | x :: t, p, e => by
    have e' := e
    simp only [depsFrom, Bool.and_eq_true, decide_eq_true_eq] at e'
    by_cases a : x.f0 < cell
    · simp only [layL, set8, foodAt, if_pos a, if_neg (show ¬ x.f0 ≥ cell by omega), if_neg (show ¬ x.f0 = cell by omega)]
      rw [lay_set8 e'.2.2]
    · have far := depsFrom_far e'.2.2 (show cell ≤ x.f0 by omega)
      by_cases b : x.f0 = cell
      · simp only [layL, set8, foodAt, if_neg a, if_pos b, if_pos (show x.f0 ≥ cell by omega)]
        rw [set8_none far, b]
      · simp only [layL, set8, foodAt, if_neg a, if_neg b, if_pos (show x.f0 ≥ cell by omega)]
        rw [set8_none far, foodAt_none far, Int.zero_add]

theorem shift_set {α : Type} (l : List α) (z v : α) (i : Nat) (hi : i ≤ l.length) : (Go.Proofs.Ytdgpnmbmnnmdcaa.Copy.shiftS (l ++ [z]) i).set i v = l.take i ++ v :: l.drop i := by
  unfold Go.Proofs.Ytdgpnmbmnnmdcaa.Copy.shiftS
  have h1 : ((l ++ [z]).take (i + 1)).length = i + 1 := by
    rw [List.length_take, List.length_append, List.length_singleton]
    omega
  have h2 : ((l ++ [z]).drop i).take ((l ++ [z]).length - (i + 1)) = l.drop i := by
    rw [List.drop_append_of_le_length hi, List.take_append_of_le_length (by rw [List.length_drop, List.length_append, List.length_singleton]; omega)]
    exact List.take_of_length_le (by rw [List.length_drop, List.length_append, List.length_singleton]; omega)
  rw [h2, List.set_append_left _ _ (by omega), List.set_eq_take_append_cons_drop, if_pos (by omega), List.take_take, List.drop_eq_nil_of_le (by omega)]
  rw [show min i (i + 1) = i by omega, List.take_append_of_le_length hi, List.append_assoc]
  rfl
theorem impl_Lay_ev {l : List S66} (w h : Int) (c : List Int) (cell n : Int) (hl : l.length ≤ 10000000) : Ev (fun k => impl_Lay.f k w h c l cell n) (layRes w h c l cell n) := by
  have copy : impl_copyDepots.f l = some l := by
    simp only [impl_copyDepots.f, Option.bind_some, List.length_nil, Nat.zero_add, List.nil_append]
    rw [if_pos (by omega)]
  have no : ¬ (areDeps w h c l = true ∧ (1 ≤ n ∧ n ≤ 10000)) → Ev (fun k => impl_Lay.j0 k l cell n true w h c) (layRes w h c l cell n) := by
    intro q
    unfold layRes
    rw [if_neg q]
    refine Ev.step (f := fun _ => some (l, false)) (fun k => ?_) (Ev.now _)
    simp only [impl_Lay.j0, if_true, copy, Option.bind_some]
  unfold impl_Lay.f
  simp only [inRange_eq, Option.bind_some]
  by_cases b : 1 ≤ n ∧ n ≤ 10000
  · refine evPos (decide_eq_true b) (Ev.bind (impl_AreDepots_ev w h c (by omega)) ?_)
    by_cases a : areDeps w h c l = true
    · rw [a, Bool.not_true]
      have a' := a
      unfold areDeps at a'
      simp only [Bool.and_eq_true] at a'
      have food := depsFrom_food a'.1
      have fin : ∀ y : List S66, y = layL cell n l → Ev (fun k => impl_Lay.j4 k l y w h c) (layRes w h c l cell n) := by
        rintro y rfl
        have hy := layL_len cell n l
        unfold layRes
        rw [if_pos ⟨a, b⟩]
        refine Ev.step (f := fun k => (impl_AreDepots.f k w h c (layL cell n l)).bind fun t => if t = true then some (layL cell n l, true) else some (l, false)) (fun k => ?_) (Ev.bind (impl_AreDepots_ev w h c (by omega)) ?_)
        · simp only [impl_Lay.j4, copy, Option.bind_some]
        · by_cases g : areDeps w h c (layL cell n l) = true
          · simp only [if_pos g]
            exact Ev.now _
          · simp only [if_neg g]
            exact Ev.now _
      have putIn : ∀ (i : Nat), i ≤ l.length → l.take i ++ (⟨cell, n⟩ : S66) :: l.drop i = layL cell n l → Ev (fun k => impl_Lay.j3 k l cell n l (i : Int) false w h c) (layRes w h c l cell n) := by
        intro i hi e
        refine Ev.step (fun k => ?_) (fin _ e)
        have w1 : wrap64 ((i : Int) + 1) = ((i + 1 : Nat) : Int) := wrapSucc (by omega)
        simp only [impl_Lay.j3, Bool.false_eq_true, if_false, Option.bind_some, w1, toNatCast]
        rw [if_pos (show l.length < 8796093022208 by omega), if_pos (by omega), if_pos (by rw [List.length_append, List.length_singleton]; omega), if_pos (by omega), if_pos (by rw [List.length_append, List.length_singleton]; omega), if_pos (by rw [List.length_append, List.length_singleton]; omega), shift_set l _ _ i hi]
      have key := evScan l (fun k (_ : Unit) i => impl_Lay.l0 k l cell n l i w h c) (fun _ _ _ => layRes w h c l cell n) (fun _ i => l.take i ++ layL cell n (l.drop i) = layL cell n l) (fun _ e => by
          rw [List.take_length, List.drop_length] at e
          refine Ev.step (f := fun k => impl_Lay.j2 k l cell n l (l.length : Int) w h c) (fun k => ?_) (Ev.step (fun k => ?_) (putIn l.length (Nat.le_refl _) ?_))
          · simp only [impl_Lay.l0]
            rw [if_neg (by omega)]
          · simp only [impl_Lay.j2]
            rw [if_neg (by omega)]
          · rw [List.take_length, List.drop_length]
            exact e) (fun _ i t hi ht e ih => by
          have f := food l[i] (List.getElem_mem hi)
          have ed : l.drop i = l[i] :: t := by rw [List.drop_eq_getElem_cons hi, ht]
          rw [ed] at e
          simp only [layL] at e
          have st : ∀ k, impl_Lay.l0 (k + 1) l cell n l (i : Int) w h c = if l[i].f0 < cell then impl_Lay.l0 k l cell n l ((i + 1 : Nat) : Int) w h c else impl_Lay.j2 k l cell n l (i : Int) w h c := by
            intro k
            simp only [impl_Lay.l0]
            rw [if_pos (by omega), if_pos (by omega), rdD hi, wrapSucc (by omega)]
          refine Ev.step st ?_
          by_cases g : l[i].f0 < cell
          · rw [if_pos g] at e
            refine evPos g (ih () ?_)
            rw [← ht, List.take_succ_eq_append_getElem hi, List.append_assoc, List.singleton_append]
            exact e
          · rw [if_neg g] at e
            refine evNeg g (Ev.step (f := fun k => impl_Lay.j3 k l cell n l (i : Int) (l[i].f0 == cell) w h c) (fun k => ?_) ?_)
            · simp only [impl_Lay.j2]
              rw [if_pos (by omega), if_pos (by omega), rdD hi]
            · by_cases q : l[i].f0 = cell
              · rw [if_pos q] at e
                rw [beq_iff_eq.2 q]
                refine Ev.step (fun k => ?_) (fin _ e)
                simp only [impl_Lay.j3, if_true, toNatCast]
                rw [if_pos (by omega), if_pos (by omega), rdD hi, wrapId (n := l[i].f1 + n) (by omega) (by omega), List.set_eq_take_append_cons_drop, if_pos hi, ← ht]
              · rw [if_neg q] at e
                rw [beq_eq_false_iff_ne.2 q]
                exact putIn i (by omega) (by rw [ed]; exact e))
        () (by simp)
      refine Ev.step (fun k => ?_) key
      simp only [impl_Lay.j0, Bool.false_eq_true, if_false, copy, Option.bind_some]
    · rw [Bool.eq_false_iff.2 a, Bool.not_false]
      exact no (fun x => a x.1)
  · exact evNeg (by rw [decide_eq_true_eq]; exact b) (no (fun x => b x.2))

theorem impl_FoodAt_ev {l : List S66} (c : Int) (hl : l.length ≤ 100000000) : Ev (fun k => impl_FoodAt.f k l c) (foodAt c l) := by
  have key := evScan l (fun k (_ : Unit) i => impl_FoodAt.l0 k c l (l.length : Int) i) (fun _ i t => foodAt c t) (fun _ _ => True) (fun _ _ => by
      refine Ev.step (f := fun _ => some 0) (fun k => ?_) (Ev.now _)
      simp only [impl_FoodAt.l0]
      rw [if_neg (by omega)]) (fun _ i t h _ _ ih => by
      have st : ∀ k, impl_FoodAt.l0 (k + 1) c l (l.length : Int) (i : Int) = if l[i].f0 = c then some l[i].f1 else impl_FoodAt.l0 k c l (l.length : Int) ((i + 1 : Nat) : Int) := by
        intro k
        simp only [impl_FoodAt.l0]
        rw [if_pos (by omega), if_pos (by omega), if_pos (by omega), rdD h, wrapSucc (by omega)]
      refine Ev.step st ?_
      simp only [foodAt]
      by_cases d : l[i].f0 = c
      · rw [if_pos d]
        exact evPos d (Ev.now _)
      · rw [if_neg d]
        exact evNeg d (ih () trivial))
    () trivial
  unfold impl_FoodAt.f
  exact key

theorem impl_Take_ev {l : List S66} (w h : Int) (c : List Int) (cell n : Int) (hl : l.length ≤ 100000000) : Ev (fun k => impl_Take.f k w h c l cell n) (takeRes w h c l cell n) := by
  have no : ¬ (areDeps w h c l = true ∧ (1 ≤ n ∧ n ≤ foodAt cell l)) → Ev (fun k => impl_Take.j0 k l cell n true) (takeRes w h c l cell n) := by
    intro q
    unfold takeRes
    rw [if_neg q]
    refine Ev.step (f := fun _ => some (l, false)) (fun k => ?_) (Ev.now _)
    simp only [impl_Take.j0, if_true, impl_copyDepots.f, Option.bind_some, List.length_nil, Nat.zero_add, List.nil_append]
    rw [if_pos (by omega), Option.bind_some]
  unfold impl_Take.f
  refine Ev.bind (impl_AreDepots_ev w h c hl) ?_
  by_cases a : areDeps w h c l = true
  · refine evPos a (Ev.bind (impl_FoodAt_ev cell hl) ?_)
    simp only [inRange_eq, Option.bind_some]
    by_cases b : 1 ≤ n ∧ n ≤ foodAt cell l
    · rw [decide_eq_true b]
      unfold takeRes
      rw [if_pos ⟨a, b⟩]
      have a' := a
      unfold areDeps at a'
      simp only [Bool.and_eq_true] at a'
      have food := depsFrom_food a'.1
      have fb : foodAt cell l ≤ 10000 := by
        rcases foodAt_mem (cell := cell) (l := l) with q | ⟨d, hd, _, q⟩
        · omega
        · have := food d hd
          omega
      have key := evScan l (fun k (acc : List S66) i => impl_Take.l0 k cell n acc l (l.length : Int) i) (fun acc _ t => (acc ++ takeL cell n t, true)) (fun acc i => acc.length ≤ i) (fun acc _ => by
          simp only [takeL, List.append_nil]
          refine Ev.step (f := fun _ => some (acc, true)) (fun k => ?_) (Ev.now _)
          simp only [impl_Take.l0]
          rw [if_neg (by omega)]) (fun acc i t hi ht ha ih => by
          have f := food l[i] (List.getElem_mem hi)
          have st : ∀ k, impl_Take.l0 (k + 1) cell n acc l (l.length : Int) (i : Int) = if l[i].f0 = cell then (if l[i].f1 - n > 0 then impl_Take.l0 k cell n (acc ++ [(⟨l[i].f0, l[i].f1 - n⟩ : S66)]) l (l.length : Int) ((i + 1 : Nat) : Int) else impl_Take.l0 k cell n acc l (l.length : Int) ((i + 1 : Nat) : Int)) else (if l[i].f1 > 0 then impl_Take.l0 k cell n (acc ++ [l[i]]) l (l.length : Int) ((i + 1 : Nat) : Int) else impl_Take.l0 k cell n acc l (l.length : Int) ((i + 1 : Nat) : Int)) := by
            intro k
            simp only [impl_Take.l0]
            rw [if_pos (by omega), if_pos (by omega), if_pos (by omega), rdD hi, wrapSucc (by omega), wrapId (n := l[i].f1 - n) (by omega) (by omega)]
            simp only [if_pos (show acc.length < 8796093022208 by omega), Option.bind_some]
          refine Ev.step st ?_
          simp only [takeL]
          by_cases e : l[i].f0 = cell
          · refine evPos e ?_
            rw [if_pos e]
            by_cases g : l[i].f1 - n > 0
            · refine evPos g ?_
              rw [if_pos g]
              have := ih (acc ++ [(⟨l[i].f0, l[i].f1 - n⟩ : S66)]) (by simp; omega)
              rwa [List.append_assoc, List.singleton_append] at this
            · refine evNeg g ?_
              rw [if_neg g]
              exact ih acc (by omega)
          · refine evNeg e ?_
            rw [if_neg e]
            by_cases g : l[i].f1 > 0
            · refine evPos g ?_
              rw [if_pos g]
              have := ih (acc ++ [l[i]]) (by simp; omega)
              rwa [List.append_assoc, List.singleton_append] at this
            · refine evNeg g ?_
              rw [if_neg g]
              exact ih acc (by omega))
        [] (by simp)
      refine Ev.step (fun k => ?_) (show Ev (fun k => impl_Take.l0 k cell n [] l (l.length : Int) 0) (takeL cell n l, true) by simpa using key)
      simp only [impl_Take.j0, Bool.not_true, Bool.false_eq_true, if_false]
    · rw [decide_eq_false b]
      exact no (fun x => b x.2)
  · exact evNeg a (no (fun x => a x.1))

def clamp (x : Int) : Int := if x < 0 then 0 else if 10000 < x then 10000 else x
def totalFood : List S66 → Int
  | [] => 0
  | d :: t => clamp d.f1 + totalFood t
theorem clamp_le (x : Int) : 0 ≤ clamp x ∧ clamp x ≤ 10000 := by
  unfold clamp
  split
  · omega
  · split <;> omega
theorem mnmx (x : Int) : mn (mx x 0) 10000 = clamp x := by
  unfold mn mx clamp
  repeat' split
  all_goals omega
theorem totalFood_le : ∀ l : List S66, 0 ≤ totalFood l ∧ totalFood l ≤ 10000 * (l.length : Int)
  | [] => by simp [totalFood]
  | d :: t => by
    have := totalFood_le t
    have := clamp_le d.f1
    simp only [totalFood, List.length_cons, Int.natCast_add]
    omega
theorem impl_TotalFood_ev {l : List S66} (hl : l.length ≤ 100000000) : Ev (fun k => impl_TotalFood.f k l) (totalFood l) := by
  have key := evScan l (fun k (acc : Int) i => impl_TotalFood.l0 k acc l (l.length : Int) i) (fun acc i t => acc + totalFood t) (fun acc i => 0 ≤ acc ∧ acc ≤ 10000 * (i : Int)) (fun acc _ => by
      rw [show acc + totalFood [] = acc by simp [totalFood]]
      refine Ev.step (f := fun _ => some acc) (fun k => ?_) (Ev.now _)
      simp only [impl_TotalFood.l0]
      rw [if_neg (by omega)]) (fun acc i t h _ hi ih => by
      have hc := clamp_le l[i].f1
      have := ih (acc + clamp l[i].f1) (by omega)
      rw [show acc + clamp l[i].f1 + totalFood t = acc + totalFood (l[i] :: t) by simp only [totalFood]; omega] at this
      refine Ev.step (fun k => ?_) this
      simp only [impl_TotalFood.l0]
      rw [if_pos (by omega), if_pos (by omega), if_pos (by omega), rdD h, wrapSucc (by omega), mnmx, wrapId (n := acc + clamp l[i].f1) (by omega) (by omega)])
    0 (by omega)
  unfold impl_TotalFood.f
  simpa using key

/-- The cursor over the bytes of a draw stands within them. -/
def curOk (b : List Int) (i : Int) : Prop := 0 ≤ i ∧ i ≤ (b.length : Int) ∧ b.length ≤ 1048576
theorem and255 (x : Int) : 0 ≤ Go.bits .and .i64 x 255 ∧ Go.bits .and .i64 x 255 ≤ 255 := by
  have h : (BitVec.ofInt 64 x &&& BitVec.ofInt 64 255).toNat ≤ 255 := by
    rw [BitVec.toNat_and]
    exact Nat.and_le_right
  have e : Go.bits .and .i64 x 255 = IntKind.i64.wrap ((BitVec.ofInt 64 x &&& BitVec.ofInt 64 255).toNat : Int) := rfl
  rw [e, IntKind.wrap_i64]
  omega
theorem l1New_ev {l : List Int} (hl : l.length ≤ 1048576) : ∃ h, Ev (fun k => spec_l1New.f k l) (l, 0, h) := by
  have key : ∀ (d : Nat) (i : Nat) (h : Int), (l.length : Int) - i ≤ d → ∃ r, Ev (fun k => spec_l1New.l0 k l h (i : Int)) (l, 0, r) := by
    intro d
    induction d with
    | zero =>
      intro i h hd
      refine ⟨h, Ev.step (f := fun _ => some (l, 0, h)) (fun k => ?_) (Ev.now _)⟩
      simp only [spec_l1New.l0]
      rw [if_neg (by omega)]
    | succ d ih =>
      intro i h hd
      by_cases c : (i : Int) < (l.length : Int)
      · by_cases c2 : (i : Int) < 4000
        · obtain ⟨r, hr⟩ := ih (i + 1) (Go.bits .and .i64 (wrap64 ((wrap64 ((wrap64 (h * 137)) + (wrap64 (rd l (i : Int))))) + 11)) 1073741823) (by omega)
          refine ⟨r, Ev.step (fun k => ?_) hr⟩
          simp only [spec_l1New.l0]
          rw [if_pos c, if_pos c2, if_pos (by omega), wrapSucc (by omega)]
        · refine ⟨h, Ev.step (f := fun _ => some (l, 0, h)) (fun k => ?_) (Ev.now _)⟩
          simp only [spec_l1New.l0]
          rw [if_pos c, if_neg c2]
      · refine ⟨h, Ev.step (f := fun _ => some (l, 0, h)) (fun k => ?_) (Ev.now _)⟩
        simp only [spec_l1New.l0]
        rw [if_neg c]
  obtain ⟨r, hr⟩ := key l.length 0 (wrap64 (193017 + (l.length : Int))) (by omega)
  refine ⟨r, ?_⟩
  unfold spec_l1New.f
  exact hr
theorem l1Byte_some {b : List Int} {i : Int} (h : Int) (hc : curOk b i) : ∃ x i' h', spec_l1Byte.f b i h = some (x, i', h') ∧ (0 ≤ x ∧ x ≤ 255) ∧ curOk b i' := by
  unfold curOk at hc
  unfold spec_l1Byte.f
  by_cases c : i < (b.length : Int)
  · rw [if_pos c, if_pos hc.1]
    refine ⟨_, _, _, rfl, and255 _, ?_⟩
    rw [wrapId (n := i + 1) (by omega) (by omega)]
    unfold curOk
    omega
  · rw [if_neg c]
    exact ⟨_, _, _, rfl, and255 _, hc⟩
theorem l1Below_some {b : List Int} {i : Int} (h : Int) {n : Int} (hn : 1 ≤ n ∧ n ≤ 256) (hc : curOk b i) : ∃ x i' h', spec_l1Below.f b i h n = some (x, i', h') ∧ (0 ≤ x ∧ x < n) ∧ curOk b i' := by
  unfold spec_l1Below.f
  obtain ⟨x, i', h', e, hx, hc'⟩ := l1Byte_some h hc
  rw [if_neg (by omega), if_pos hn.2, e]
  simp only [Option.bind_some]
  rw [if_neg (by omega), Int.tmod_eq_emod_of_nonneg hx.1]
  exact ⟨_, _, _, rfl, ⟨Int.emod_nonneg _ (by omega), Int.emod_lt_of_pos _ (by omega)⟩, hc'⟩
theorem l1Below_zero (b : List Int) (i h : Int) {n : Int} (hn : n ≤ 0) : spec_l1Below.f b i h n = some (0, i, h) := by
  unfold spec_l1Below.f
  rw [if_pos hn]

theorem l1Int_some {b : List Int} {i : Int} (h : Int) {l : List Int} (hl : 1 ≤ l.length ∧ l.length ≤ 256) (hc : curOk b i) : ∃ x i' h', spec_l1Int.f b i h l = some (x, i', h') ∧ x ∈ l ∧ curOk b i' := by
  unfold spec_l1Int.f
  obtain ⟨x, i', h', e, hx, hc'⟩ := l1Below_some h (n := (l.length : Int)) (by omega) hc
  rw [e]
  simp only [Option.bind_some]
  rw [if_pos hx.1, if_pos hx.2]
  refine ⟨_, _, _, rfl, ?_, hc'⟩
  unfold rd
  rw [getD_lt (by omega)]
  exact List.getElem_mem _

theorem big_eq (l : List Int) : laws_big.f l = some (decide ((l.length : Int) > 1048576)) := rfl
theorem curStart {l : List Int} (hl : l.length ≤ 1048576) : curOk l 0 := by unfold curOk; omega

theorem l1Once_some {b : List Int} {i : Int} (h : Int) {n : Int} (hn : 1 ≤ n ∧ n ≤ 256) (hc : curOk b i) : ∃ q i' h', spec_l1Once.f b i h n = some (q, i', h') ∧ curOk b i' := by
  unfold spec_l1Once.f
  obtain ⟨x, i', h', e, hx, hc'⟩ := l1Below_some h hn hc
  rw [e]
  exact ⟨_, _, _, rfl, hc'⟩

theorem l4Raw_some {b : List Int} {i : Int} (s : Int) (hc : curOk b i) : ∃ x i' s', spec_l4Raw.f b i s = some (x, i', s') ∧ curOk b i' := by
  unfold spec_l4Raw.f
  obtain ⟨x, i', s', e, _, c'⟩ := l1Int_some s (l := [(-1), 0, 8, 9, 64, 9223372036854775807, (-9223372036854775808)]) (by decide) hc
  rw [e]
  exact ⟨_, _, _, rfl, c'⟩
theorem l4Draw_loop {b : List Int} {w h : Int} (hw : 2 ≤ w ∧ w ≤ 6) (hh : 2 ≤ h ∧ h ≤ 5) (hp : 4 ≤ w * h ∧ w * h ≤ 30) : ∀ (d : Nat) (acc : List Int) (i s : Int), curOk b i → (acc.length : Int) + (d : Int) = w * h → (∀ x ∈ acc, 0 ≤ x ∧ x ≤ 2) →
    ∃ c i' s', Ev (fun k => spec_l4Draw.l0 k (acc.length : Int) b i s w h acc) (w, h, c, i', s') ∧ curOk b i' ∧ landOk w h c ∧ rd c 0 = 0 := by
  have wp : wrap64 (w * h) = w * h := wrapId (by omega) (by omega)
  intro d
  induction d with
  | zero =>
    intro acc i s hc hl ha
    have hpos : 0 < acc.length := by omega
    refine ⟨acc.set 0 0, i, s, Ev.step (f := fun _ => some (w, h, acc.set 0 0, i, s)) (fun k => ?_) (Ev.now _), hc, ⟨⟨⟨by omega, by omega⟩, ⟨by omega, by omega⟩⟩, by rw [List.length_set]; omega, fun x hx => ?_⟩, ?_⟩
    · simp only [spec_l4Draw.l0]
      rw [wp, if_neg (by omega), if_pos (by omega)]
      rfl
    · rcases List.mem_or_eq_of_mem_set hx with q | rfl
      · exact ha x q
      · omega
    · unfold rd
      rw [show (0 : Int).toNat = 0 from rfl, getD_lt (by rw [List.length_set]; exact hpos), List.getElem_set_self]
  | succ d ih =>
    intro acc i s hc hl ha
    obtain ⟨x, i1, s1, e1, m1, c1⟩ := l1Int_some s (l := [0, 0, 0, 0, 1, 2]) (by decide) hc
    have hx : 0 ≤ x ∧ x ≤ 2 := by
      simp only [List.mem_cons, List.not_mem_nil, or_false] at m1
      omega
    obtain ⟨c, i2, s2, e2, r⟩ := ih (acc ++ [x]) i1 s1 c1 (by rw [List.length_append, List.length_singleton]; omega) (fun y hy => by
      rcases List.mem_append.1 hy with q | q
      · exact ha y q
      · rw [List.mem_singleton] at q
        rw [q]
        exact hx)
    refine ⟨c, i2, s2, Ev.step (fun k => ?_) e2, r⟩
    simp only [spec_l4Draw.l0, e1, Option.bind_some]
    rw [wp, if_pos (by omega), if_pos (by omega), wrapSucc (by omega), List.length_append, List.length_singleton]
theorem l4Draw_ev {b : List Int} {i : Int} (s : Int) (hc : curOk b i) : ∃ w h c i' s', Ev (fun k => spec_l4Draw.f k b i s) (w, h, c, i', s') ∧ curOk b i' ∧ landOk w h c ∧ rd c 0 = 0 ∧ c.length ≤ 30 := by
  unfold spec_l4Draw.f
  obtain ⟨x, i1, s1, e1, b1, c1⟩ := l1Below_some s (n := 5) (by omega) hc
  obtain ⟨y, i2, s2, e2, b2, c2⟩ := l1Below_some s1 (n := 4) (by omega) c1
  have p0 : 2 * 2 ≤ (2 + x) * (2 + y) := Int.mul_le_mul (by omega) (by omega) (by omega) (by omega)
  have p1 : (2 + x) * (2 + y) ≤ 6 * 5 := Int.mul_le_mul (by omega) (by omega) (by omega) (by omega)
  obtain ⟨c, i3, s3, e3, c3, l3, z3⟩ := l4Draw_loop (w := 2 + x) (h := 2 + y) (by omega) (by omega) (by omega) ((2 + x) * (2 + y)).toNat [] i2 s2 c2 (by rw [List.length_nil]; omega) (fun x hx => by cases hx)
  have hl := l3.2.1
  refine ⟨_, _, c, i3, s3, ?_, c3, l3, z3, by omega⟩
  simp only [e1, e2, Option.bind_some]
  rw [wrapId (n := 2 + x) (by omega) (by omega), wrapId (n := 2 + y) (by omega) (by omega)]
  exact e3
theorem l4Any_ev {b : List Int} {i : Int} (s : Int) (hc : curOk b i) : ∃ w h c i' s', Ev (fun k => spec_l4Any.f k b i s) (w, h, c, i', s') ∧ curOk b i' ∧ c.length ≤ 30 := by
  unfold spec_l4Any.f
  obtain ⟨w, h, c, i1, s1, e1, c1, l1, _, n1⟩ := l4Draw_ev s hc
  obtain ⟨x, i2, s2, e2, b2, c2⟩ := l1Below_some s1 (n := 14) (by omega) c1
  have hl := l1.len
  by_cases q0 : x = 0
  · obtain ⟨u, i3, s3, e3, c3⟩ := l4Raw_some s2 c2
    refine ⟨u, h, c, i3, s3, Ev.bind e1 ?_, c3, n1⟩
    simp only [e2, Option.bind_some, if_pos q0, e3]
    exact Ev.now _
  · by_cases q1 : x = 1
    · obtain ⟨u, i3, s3, e3, c3⟩ := l4Raw_some s2 c2
      refine ⟨w, u, c, i3, s3, Ev.bind e1 ?_, c3, n1⟩
      simp only [e2, Option.bind_some, if_neg q0, if_pos q1, e3]
      exact Ev.now _
    · by_cases q2 : x = 2
      · obtain ⟨u, i3, s3, e3, _, c3⟩ := l1Int_some s2 (l := [(-1), 2, 3]) (by decide) c2
        refine ⟨w, h, c.set (0 : Int).toNat u, i3, s3, Ev.bind e1 ?_, c3, by rw [List.length_set]; exact n1⟩
        simp only [e2, Option.bind_some, if_neg q0, if_neg q1, if_pos q2, e3]
        exact evPos (by omega) (Ev.now _)
      · by_cases q3 : x = 3
        · refine ⟨w, h, c.drop (1 : Int).toNat, i2, s2, Ev.bind e1 ?_, c2, Nat.le_trans (by rw [List.length_drop]; omega) n1⟩
          simp only [e2, Option.bind_some, if_neg q0, if_neg q1, if_neg q2, if_pos q3]
          exact evPos (by omega) (Ev.now _)
        · refine ⟨w, h, c, i2, s2, Ev.bind e1 ?_, c2, n1⟩
          simp only [e2, Option.bind_some, if_neg q0, if_neg q1, if_neg q2, if_neg q3]
          exact Ev.now _

theorem l1In_eq (a b c : Int) : spec_l1In.f a b c = some (decide (b ≤ a ∧ a ≤ c)) := by
  unfold spec_l1In.f
  by_cases h : b ≤ a
  · rw [if_pos h]
    simp [h]
  · rw [if_neg h]
    simp [h]

theorem spec_IsLand_ev (w h : Int) (c : List Int) : Ev (fun k => spec_IsLand.f k w h c) (decide (landOk w h c)) := by
  have no : ∀ (q : ¬ landOk w h c), Ev (fun k => spec_IsLand.j0 k true w h c) (decide (landOk w h c)) := by
    intro q
    rw [decide_eq_false q]
    refine Ev.step (f := fun _ => some false) (fun k => ?_) (Ev.now _)
    simp only [spec_IsLand.j0, if_true]
  unfold spec_IsLand.f
  simp only [l1In_eq, Option.bind_some]
  by_cases c0 : 1 ≤ w ∧ w ≤ 8
  · refine evPos (decide_eq_true c0) ?_
    by_cases c1 : 1 ≤ h ∧ h ≤ 8
    · have sb := sideB c0 c1
      refine evPos (decide_eq_true c1) ?_
      rw [wrapId (n := w * h) (by omega) (by omega)]
      by_cases c2 : (c.length : Int) = w * h
      · rw [show ((c.length : Int) != w * h) = false by simp [c2], show decide (landOk w h c) = inB 0 2 c by rw [Bool.eq_iff_iff, decide_eq_true_eq, inB_iff]; exact ⟨fun x => x.2.2, fun x => ⟨⟨c0, c1⟩, c2, x⟩⟩]
        refine Ev.step (f := fun k => spec_IsLand.l0 k 0 w h c) (fun k => ?_) ?_
        · simp only [spec_IsLand.j0, Bool.false_eq_true, if_false]
        exact evScan c (fun k (_ : Unit) i => spec_IsLand.l0 k i w h c) (fun _ _ t => inB 0 2 t) (fun _ _ => True) (fun _ _ => by
          rw [show inB 0 2 [] = true from rfl]
          refine Ev.step (f := fun _ => some true) (fun k => ?_) (Ev.now _)
          simp only [spec_IsLand.l0]
          rw [if_neg (by omega)]) (fun _ i t hi _ _ ih => by
          have st : ∀ k, spec_IsLand.l0 (k + 1) (i : Int) w h c = if decide (0 ≤ c[i] ∧ c[i] ≤ 2) = true then spec_IsLand.l0 k ((i + 1 : Nat) : Int) w h c else some false := by
            intro k
            simp only [spec_IsLand.l0, l1In_eq, Option.bind_some]
            rw [if_pos (by omega), if_pos (by omega), rdIn hi, wrapSucc (by omega)]
          refine Ev.step st ?_
          by_cases d : 0 ≤ c[i] ∧ c[i] ≤ 2
          · refine evPos (decide_eq_true d) ?_
            rw [inB_yes d]
            exact ih () trivial
          · refine evNeg (by rw [decide_eq_true_eq]; exact d) ?_
            rw [inB_no d]
            exact Ev.now _)
          () trivial
      · rw [show ((c.length : Int) != w * h) = true by simp [c2]]
        exact no (fun x => c2 x.2.1)
    · exact evNeg (by rw [decide_eq_true_eq]; exact c1) (no (fun x => c1 x.1.2))
  · exact evNeg (by rw [decide_eq_true_eq]; exact c0) (no (fun x => c0 x.1.1))
theorem spec_IsCell_ev (w h : Int) (c : List Int) (n : Int) : Ev (fun k => spec_IsCell.f k w h c n) (decide (cellOk w h c n)) := by
  unfold spec_IsCell.f
  refine Ev.bind (spec_IsLand_ev w h c) ?_
  by_cases q : landOk w h c
  · refine evPos (decide_eq_true q) ?_
    have := q.len
    simp only [l1In_eq, Option.bind_some]
    rw [wrapId (n := (c.length : Int) - 1) (by omega) (by omega), show decide (cellOk w h c n) = decide (0 ≤ n ∧ n ≤ (c.length : Int) - 1) by rw [decide_eq_decide]; exact ⟨fun x => ⟨x.2.1, by have := x.2.2; omega⟩, fun x => ⟨q, x.1, by omega⟩⟩]
    exact Ev.now _
  · rw [decide_eq_false (fun x : cellOk w h c n => q x.1)]
    exact evNeg (by rw [decide_eq_true_eq]; exact q) (Ev.now _)

theorem spec_IsOpen_ev (w h : Int) (c : List Int) (n : Int) : Ev (fun k => spec_IsOpen.f k w h c n) (decide (openOk w h c n)) := by
  unfold spec_IsOpen.f
  refine Ev.bind (spec_IsCell_ev w h c n) ?_
  by_cases q : cellOk w h c n
  · refine evPos (decide_eq_true q) (evPos q.2.1 (evPos q.2.2 ?_))
    rw [show decide (openOk w h c n) = (rd c n != 2) by rw [Bool.eq_iff_iff, decide_eq_true_eq, bne_iff_ne]; exact ⟨fun x => x.2, fun x => ⟨q, x⟩⟩]
    exact Ev.now _
  · rw [decide_eq_false (fun x : openOk w h c n => q x.1)]
    exact evNeg (by rw [decide_eq_true_eq]; exact q) (Ev.now _)

theorem spec_AreDepots_ev {l : List S66} (w h : Int) (c : List Int) (hl : l.length ≤ 100000000) : Ev (fun k => spec_AreDepots.f k w h c l) (areDeps w h c l) := by
  have key := evScan l (fun k (_ : Unit) i => spec_AreDepots.l0 k l i w h c) (fun _ i t => depsFrom w h c (prevCell l i) t && (decide (landOk w h c) && decide ((l.length : Int) ≤ 20))) (fun _ _ => True) (fun _ _ => by
      refine Ev.step (f := fun k => (spec_IsLand.f k w h c).bind fun t => if t = true then some (decide ((l.length : Int) ≤ 20)) else some false) (fun k => ?_) (Ev.bind (spec_IsLand_ev w h c) ?_)
      · simp only [spec_AreDepots.l0]
        rw [if_neg (by omega)]
      · simp only [depsFrom, Bool.true_and]
        by_cases q : landOk w h c
        · rw [decide_eq_true q, Bool.true_and]
          exact evPos rfl (Ev.now _)
        · rw [decide_eq_false q, Bool.false_and]
          exact evNeg (by decide) (Ev.now _)) (fun _ i t hi ht _ ih => by
      have ih := ih () trivial
      rw [prevCell_succ hi] at ih
      have bad : ∀ (q : ¬ (okD w h c l[i] = true ∧ prevCell l i < l[i].f0)), Ev (fun _ => some false) (depsFrom w h c (prevCell l i) (l[i] :: t) && (decide (landOk w h c) && decide ((l.length : Int) ≤ 20))) := by
        intro q
        have e : depsFrom w h c (prevCell l i) (l[i] :: t) = false := by
          simp only [depsFrom]
          by_cases d : okD w h c l[i] = true
          · have n : ¬ prevCell l i < l[i].f0 := fun x => q ⟨d, x⟩
            simp [n]
          · simp [d]
        rw [e, Bool.false_and]
        exact Ev.now _
      have st : ∀ k, spec_AreDepots.l0 (k + 1) l (i : Int) w h c = (spec_IsOpen.f k w h c l[i].f0).bind fun o => if o = true then (if decide (1 ≤ l[i].f1 ∧ l[i].f1 ≤ 10000) = true then (if prevCell l i < l[i].f0 ∨ i = 0 then spec_AreDepots.l0 k l ((i + 1 : Nat) : Int) w h c else some false) else some false) else some false := by
        intro k
        simp only [spec_AreDepots.l0, l1In_eq, Option.bind_some]
        rw [if_pos (by omega), if_pos (by omega), rdD hi, wrapSucc (by omega)]
        by_cases c1 : 0 < i
        · rw [← prevCell_pos hl (by omega) c1]
          have w1 : wrap64 ((i : Int) - 1) = ((i - 1 : Nat) : Int) := by rw [wrapId (n := (i : Int) - 1) (by omega) (by omega)]; omega
          rw [w1]
          have g1 : (i : Int) > 0 := by omega
          have g2 : (0 : Int) ≤ ((i - 1 : Nat) : Int) := by omega
          have g3 : ((i - 1 : Nat) : Int) < (l.length : Int) := by omega
          have g4 : ¬ i = 0 := by omega
          simp only [if_pos g1, if_pos g2, if_pos g3, g4, or_false]
          by_cases c2 : prevCell l i ≥ l[i].f0
          · simp only [if_pos c2, if_neg (show ¬ prevCell l i < l[i].f0 by omega)]
          · simp only [if_neg c2, if_pos (show prevCell l i < l[i].f0 by omega)]
        · have g1 : ¬ ((i : Int) > 0) := by omega
          have g4 : i = 0 := by omega
          simp only [if_neg g1, if_pos (show prevCell l i < l[i].f0 ∨ i = 0 from .inr g4)]
      refine Ev.step st (Ev.bind (spec_IsOpen_ev w h c l[i].f0) ?_)
      by_cases q0 : openOk w h c l[i].f0
      · refine evPos (decide_eq_true q0) ?_
        by_cases q2 : 1 ≤ l[i].f1 ∧ l[i].f1 ≤ 10000
        · refine evPos (decide_eq_true q2) ?_
          by_cases q1 : prevCell l i < l[i].f0 ∨ i = 0
          · refine evPos q1 ?_
            have lt : prevCell l i < l[i].f0 := by
              rcases q1 with x | x
              · exact x
              · unfold prevCell
                rw [if_pos x]
                have := q0.1.2.1
                omega
            have ok : okD w h c l[i] = true := by unfold okD; rw [decide_eq_true q0, decide_eq_true q2]; rfl
            simp only [depsFrom, ok, lt, decide_true, Bool.true_and]
            exact ih
          · exact evNeg q1 (bad (fun x => q1 (.inl x.2)))
        · refine evNeg (by rw [decide_eq_true_eq]; exact q2) (bad ?_)
          rintro ⟨x, _⟩
          unfold okD at x
          simp only [Bool.and_eq_true, decide_eq_true_eq] at x
          exact q2 x.2
      · refine evNeg (by rw [decide_eq_true_eq]; exact q0) (bad ?_)
        rintro ⟨x, _⟩
        unfold okD at x
        simp only [Bool.and_eq_true, decide_eq_true_eq] at x
        exact q0 x.1)
    () trivial
  unfold spec_AreDepots.f
  exact key

theorem spec_FoodAt_ev {l : List S66} (c : Int) (hl : l.length ≤ 100000000) : Ev (fun k => spec_FoodAt.f k l c) (foodAt c l) := by
  have key := evScan l (fun k (_ : Unit) i => spec_FoodAt.l0 k l c i) (fun _ i t => foodAt c t) (fun _ _ => True) (fun _ _ => by
      refine Ev.step (f := fun _ => some 0) (fun k => ?_) (Ev.now _)
      simp only [spec_FoodAt.l0]
      rw [if_neg (by omega)]) (fun _ i t h _ _ ih => by
      have st : ∀ k, spec_FoodAt.l0 (k + 1) l c (i : Int) = if l[i].f0 = c then some l[i].f1 else spec_FoodAt.l0 k l c ((i + 1 : Nat) : Int) := by
        intro k
        simp only [spec_FoodAt.l0]
        rw [if_pos (by omega), if_pos (by omega), rdD h, wrapSucc (by omega)]
      refine Ev.step st ?_
      simp only [foodAt]
      by_cases d : l[i].f0 = c
      · rw [if_pos d]
        exact evPos d (Ev.now _)
      · rw [if_neg d]
        exact evNeg d (ih () trivial))
    () trivial
  unfold spec_FoodAt.f
  exact key

theorem spec_l8Set_ev {l : List S66} (cell food : Int) (hl : l.length ≤ 100000000) : Ev (fun k => spec_l8Set.f k l cell food) (set8 cell food (food == 0) l) := by
  have key := evScan l (fun k (s : List S66 × Bool) i => spec_l8Set.l0 k l cell food s.1 s.2 i) (fun s _ t => s.1 ++ set8 cell food s.2 t) (fun s i => s.1.length ≤ 2 * i) (fun s hs => by
      obtain ⟨x, b⟩ := s
      dsimp only at hs ⊢
      cases b with
      | true =>
        simp only [set8, List.append_nil]
        refine Ev.step (f := fun _ => some x) (fun k => ?_) (Ev.now _)
        simp only [spec_l8Set.l0, if_true]
        rw [if_neg (by omega)]
      | false =>
        simp only [set8]
        refine Ev.step (f := fun _ => some (x ++ [⟨cell, food⟩])) (fun k => ?_) (Ev.now _)
        simp only [spec_l8Set.l0, Bool.false_eq_true, if_false]
        rw [if_neg (by omega), if_pos (by omega)]) (fun s i t h ht hs ih => by
      obtain ⟨x, b⟩ := s
      dsimp only at hs ⊢
      have skip : ∀ (y : List S66) (q : Bool), y.length ≤ 2 * i + 1 → Ev (fun k => spec_l8Set.l0 k l cell food (if l[i].f0 = cell then y else y ++ [l[i]]) q ((i + 1 : Nat) : Int)) (y ++ (if l[i].f0 = cell then set8 cell food q t else l[i] :: set8 cell food q t)) := by
        intro y q hy
        by_cases c : l[i].f0 = cell
        · rw [if_pos c, if_pos c]
          exact ih (y, q) (by dsimp only; omega)
        · rw [if_neg c, if_neg c]
          have := ih (y ++ [l[i]], q) (by simp; omega)
          dsimp only at this
          rwa [List.append_assoc, List.singleton_append] at this
      have jf : ∀ k, spec_l8Set.j1 (k + 1) l cell food x b (i : Int) false = spec_l8Set.l0 k l cell food (if l[i].f0 = cell then x else x ++ [l[i]]) b ((i + 1 : Nat) : Int) := by
        intro k
        simp only [spec_l8Set.j1, Bool.false_eq_true, if_false]
        rw [if_pos (by omega), if_pos (by omega), rdD h, wrapSucc (by omega)]
        simp only [if_pos (show x.length < 8796093022208 by omega)]
        by_cases c : l[i].f0 = cell
        · rw [if_pos c, if_pos c]
        · rw [if_neg c, if_neg c]
      cases b with
      | true =>
        refine Ev.step (f := fun k => spec_l8Set.j1 k l cell food x true (i : Int) false) (fun k => ?_) (Ev.step jf ?_)
        · simp only [spec_l8Set.l0, if_true]
          rw [if_pos (by omega)]
        · simp only [set8]
          exact skip x true (by omega)
      | false =>
        refine Ev.step (f := fun k => spec_l8Set.j1 k l cell food x false (i : Int) (decide (l[i].f0 ≥ cell))) (fun k => ?_) ?_
        · simp only [spec_l8Set.l0, Bool.false_eq_true, if_false]
          rw [if_pos (by omega), if_pos (by omega), rdD h]
        · by_cases g : l[i].f0 ≥ cell
          · rw [decide_eq_true g]
            refine Ev.step (f := fun k => spec_l8Set.l0 k l cell food (if l[i].f0 = cell then x ++ [⟨cell, food⟩] else x ++ [⟨cell, food⟩] ++ [l[i]]) true ((i + 1 : Nat) : Int)) (fun k => ?_) ?_
            · simp only [spec_l8Set.j1, if_true]
              rw [if_pos (by omega)]
              simp only [Option.bind_some]
              rw [if_pos (by omega), if_pos (by omega), rdD h, wrapSucc (by omega)]
              simp only [if_pos (show (x ++ [(⟨cell, food⟩ : S66)]).length < 8796093022208 by rw [List.length_append, List.length_singleton]; omega)]
              by_cases c : l[i].f0 = cell
              · rw [if_pos c, if_pos c]
              · rw [if_neg c, if_neg c]
            · simp only [set8, if_pos g]
              have := skip (x ++ [⟨cell, food⟩]) true (by simp; omega)
              simpa only [List.append_assoc, List.singleton_append, List.cons_append, List.nil_append] using this
          · rw [decide_eq_false g]
            have ne : ¬ l[i].f0 = cell := by omega
            refine Ev.step jf ?_
            simp only [set8, if_neg g]
            have := skip x false (by omega)
            simpa only [if_neg ne] using this)
    ([], (food == 0)) (by simp)
  unfold spec_l8Set.f
  simpa using key

theorem spec_Lay_ev {l : List S66} (w h : Int) (c : List Int) (cell n : Int) (hl : l.length ≤ 10000000) : Ev (fun k => spec_Lay.f k w h c l cell n) (layRes w h c l cell n) := by
  have no : ¬ (areDeps w h c l = true ∧ (1 ≤ n ∧ n ≤ 10000)) → Ev (fun k => spec_Lay.j0 k l cell n l true w h c) (layRes w h c l cell n) := by
    intro q
    unfold layRes
    rw [if_neg q]
    refine Ev.step (f := fun _ => some (l, false)) (fun k => ?_) (Ev.now _)
    simp only [spec_Lay.j0, if_true]
  unfold spec_Lay.f
  simp only [Option.bind_some, List.length_nil, Nat.zero_add, List.nil_append]
  refine evPos (show l.length < 8796093022208 by omega) ?_
  refine Ev.bind (spec_AreDepots_ev w h c (by omega)) ?_
  by_cases a : areDeps w h c l = true
  · refine evPos a ?_
    simp only [l1In_eq, Option.bind_some]
    by_cases b : 1 ≤ n ∧ n ≤ 10000
    · rw [decide_eq_true b, Bool.not_true]
      have a' := a
      unfold areDeps at a'
      simp only [Bool.and_eq_true] at a'
      have fb : 0 ≤ foodAt cell l ∧ foodAt cell l ≤ 10000 := by
        rcases foodAt_mem (cell := cell) (l := l) with q | ⟨d, hd, _, q⟩
        · omega
        · have := depsFrom_food a'.1 d hd
          omega
      unfold layRes
      rw [if_pos ⟨a, b⟩]
      refine Ev.step (fun k => rfl) ?_
      simp only [spec_Lay.j0, Bool.false_eq_true, if_false]
      refine Ev.bind (spec_FoodAt_ev cell (by omega)) ?_
      rw [wrapId (n := foodAt cell l + n) (by omega) (by omega)]
      refine Ev.bind (spec_l8Set_ev cell (foodAt cell l + n) (by omega)) ?_
      have hy := layL_len cell n l
      rw [beq_eq_false_iff_ne.2 (show foodAt cell l + n ≠ 0 by omega), ← lay_set8 a'.1]
      refine Ev.bind (spec_AreDepots_ev w h c (by omega)) ?_
      by_cases g : areDeps w h c (layL cell n l) = true
      · simp only [if_pos g]
        exact Ev.now _
      · simp only [if_neg g]
        exact Ev.now _
    · rw [decide_eq_false b, Bool.not_false]
      exact no (fun x => b x.2)
  · exact evNeg a (no (fun x => a x.1))

theorem l8Draw_loop {b : List Int} {w h : Int} {c : List Int} : ∀ (d : Nat) (l : List S66) (i s : Int), curOk b i → l.length + d ≤ 100 → ∃ r i' s', Ev (fun k => spec_l8Draw.l0 k l (d : Int) b i s w h c) (r, i', s') ∧ curOk b i' ∧ r.length ≤ l.length + d := by
  intro d
  induction d with
  | zero =>
    intro l i s hc hl
    refine ⟨l, i, s, Ev.step (f := fun _ => some (l, i, s)) (fun k => ?_) (Ev.now _), hc, Nat.le_refl _⟩
    simp only [spec_l8Draw.l0]
    rw [if_neg (by omega)]
  | succ d ih =>
    intro l i s hc hl
    obtain ⟨x, i1, s1, e1, b1, c1⟩ := l1Below_some s (n := 20) (by omega) hc
    obtain ⟨y, i2, s2, e2, b2, c2⟩ := l1Below_some s1 (n := 30) (by omega) c1
    have hr := layRes_len w h c l x (1 + y)
    obtain ⟨r, i3, s3, e3, c3, n3⟩ := ih (layRes w h c l x (1 + y)).1 i2 s2 c2 (by omega)
    refine ⟨r, i3, s3, Ev.step (f := fun k => (spec_Lay.f k w h c l x (1 + y)).bind fun z => spec_l8Draw.l0 k z.1 (d : Int) b i2 s2 w h c) (fun k => ?_) (Ev.bind (spec_Lay_ev w h c x (1 + y) (by omega)) e3), c3, by omega⟩
    simp only [spec_l8Draw.l0, e1, e2, Option.bind_some]
    rw [if_pos (by omega), wrapId (n := 1 + y) (by omega) (by omega), wrapId (n := ((d + 1 : Nat) : Int) - 1) (by omega) (by omega), show ((d + 1 : Nat) : Int) - 1 = (d : Int) by omega]
theorem l8Any_ev {b : List Int} {i : Int} (s : Int) (hc : curOk b i) : ∃ w h c l i' s', Ev (fun k => spec_l8Any.f k b i s) (w, h, c, l, i', s') ∧ curOk b i' ∧ c.length ≤ 30 ∧ l.length ≤ 10 := by
  unfold spec_l8Any.f
  obtain ⟨w, h, c, i1, s1, e1, c1, n1⟩ := l4Any_ev s hc
  obtain ⟨t, i2, s2, e2, b2, c2⟩ := l1Below_some s1 (n := 4) (by omega) c1
  obtain ⟨r, i3, s3, e3, c3, n3⟩ := l8Draw_loop (w := w) (h := h) (c := c) t.toNat [] i2 s2 c2 (by rw [List.length_nil]; omega)
  rw [List.length_nil] at n3
  have e4 : Ev (fun k => spec_l8Draw.f k b i1 s1 w h c) (r, i3, s3) := by
    unfold spec_l8Draw.f
    simp only [e2, Option.bind_some]
    rw [show t = ((t.toNat : Nat) : Int) by omega]
    exact e3
  by_cases q : (r.length : Int) > 0
  · obtain ⟨j, i5, s5, e5, b5, c5⟩ := l1Below_some s3 (n := (r.length : Int)) (by omega) c3
    obtain ⟨x, i6, s6, e6, b6, c6⟩ := l1Below_some s5 (n := 10) (by omega) c5
    by_cases q0 : x = 0
    · obtain ⟨u, i7, s7, e7, c7⟩ := l4Raw_some s6 c6
      refine ⟨w, h, c, r.set j.toNat ⟨u, (rd_T66 r j).f1⟩, i7, s7, Ev.bind e1 (Ev.bind e4 (evPos q ?_)), c7, n1, by rw [List.length_set]; omega⟩
      simp only [e5, e6, Option.bind_some, if_pos q0, e7]
      exact evPos b5.1 (evPos b5.2 (Ev.now _))
    · by_cases q1 : x = 1
      · obtain ⟨u, i7, s7, e7, _, c7⟩ := l1Int_some s6 (l := [0, 10000, 10001]) (by decide) c6
        refine ⟨w, h, c, r.set j.toNat ⟨(rd_T66 r j).f0, u⟩, i7, s7, Ev.bind e1 (Ev.bind e4 (evPos q ?_)), c7, n1, by rw [List.length_set]; omega⟩
        simp only [e5, e6, Option.bind_some, if_neg q0, if_pos q1, e7]
        exact evPos b5.1 (evPos b5.2 (Ev.now _))
      · refine ⟨w, h, c, r, i6, s6, Ev.bind e1 (Ev.bind e4 (evPos q ?_)), c6, n1, by omega⟩
        simp only [e5, e6, Option.bind_some, if_neg q0, if_neg q1]
        exact Ev.now _
  · exact ⟨w, h, c, r, i3, s3, Ev.bind e1 (Ev.bind e4 (evNeg q (Ev.now _))), c3, n1, by omega⟩
theorem DrawLay_ev {l : List Int} (hl : l.length ≤ 1048576) : ∃ w h c d cell n, Ev (fun k => spec_DrawLay.f k l) (w, h, c, d, cell, n) ∧ d.length ≤ 10 ∧ n ≤ 10001 := by
  unfold spec_DrawLay.f
  obtain ⟨s, e0⟩ := l1New_ev hl
  obtain ⟨w, h, c, d, i1, s1, e1, c1, _, n1⟩ := l8Any_ev s (curStart hl)
  obtain ⟨x, i2, s2, e2, b2, c2⟩ := l1Below_some s1 (n := 22) (by omega) c1
  obtain ⟨n, i3, s3, e3, m3, c3⟩ := l1Int_some s2 (l := [1, 7, 10000, 10001, 0, (-1)]) (by decide) c2
  refine ⟨w, h, c, d, x, n, Ev.bind e0 (Ev.bind e1 ?_), n1, ?_⟩
  · simp only [e2, e3, Option.bind_some]
    exact Ev.now _
  · simp only [List.mem_cons, List.not_mem_nil, or_false] at m3
    omega
theorem wrapB (x : Int) : -9223372036854775808 ≤ wrap64 x ∧ wrap64 x ≤ 9223372036854775807 := by
  unfold wrap64
  omega

theorem food_lay {w h : Int} {c : List Int} {cell n : Int} : ∀ {l : List S66} {p : Int}, depsFrom w h c p l = true → foodAt cell (layL cell n l) = foodAt cell l + n
  | [], _, _ => by simp [layL, foodAt]
  | x :: t, p, e => by
    have e' := e
    simp only [depsFrom, Bool.and_eq_true, decide_eq_true_eq] at e'
    by_cases a : x.f0 < cell
    · simp only [layL, if_pos a, foodAt, if_neg (show ¬ x.f0 = cell by omega)]
      exact food_lay e'.2.2
    · by_cases b : x.f0 = cell
      · simp only [layL, if_neg a, if_pos b, foodAt]
      · have far := depsFrom_far e'.2.2 (show cell ≤ x.f0 by omega)
        simp only [layL, if_neg a, if_neg b, foodAt, if_true]
        rw [foodAt_none far, Int.zero_add]
theorem take_lay {w h : Int} {c : List Int} {cell n : Int} (hn : 1 ≤ n) : ∀ {l : List S66} {p : Int}, depsFrom w h c p l = true → takeL cell n (layL cell n l) = l
  | [], _, _ => by
    simp only [layL, takeL, if_true]
    rw [if_neg (by omega)]
  | x :: t, p, e => by
    have e' := e
    simp only [depsFrom, Bool.and_eq_true, decide_eq_true_eq] at e'
    have fx := depsFrom_food e x List.mem_cons_self
    have ft := depsFrom_food e'.2.2
    by_cases a : x.f0 < cell
    · simp only [layL, if_pos a, takeL, if_neg (show ¬ x.f0 = cell by omega), if_pos (show x.f1 > 0 by omega)]
      rw [take_lay hn e'.2.2]
    · have far := depsFrom_far e'.2.2 (show cell ≤ x.f0 by omega)
      by_cases b : x.f0 = cell
      · simp only [layL, if_neg a, if_pos b, takeL]
        rw [if_pos (show x.f1 + n - n > 0 by omega), takeL_none far ft, Int.add_sub_cancel]
      · simp only [layL, if_neg a, if_neg b, takeL, if_true]
        rw [if_neg (show ¬ n - n > 0 by omega), if_pos (show x.f1 > 0 by omega), takeL_none far ft]
theorem clamp_id {x : Int} (h : 1 ≤ x ∧ x ≤ 10000) : clamp x = x := by
  unfold clamp
  rw [if_neg (by omega), if_neg (by omega)]
theorem total_lay {cell n : Int} (hn : 1 ≤ n) : ∀ {l : List S66}, (∀ d ∈ l, 1 ≤ d.f1 ∧ d.f1 ≤ 10000) → (∀ d ∈ layL cell n l, 1 ≤ d.f1 ∧ d.f1 ≤ 10000) → totalFood (layL cell n l) = totalFood l + n
  | [], _, h => by
    have this : 1 ≤ n ∧ n ≤ 10000 := h ⟨cell, n⟩ (by simp [layL])
    simp only [layL, totalFood]
    rw [clamp_id this]
    omega
  | x :: t, f, h => by
    have fx := f x List.mem_cons_self
    by_cases a : x.f0 < cell
    · simp only [layL, if_pos a] at h ⊢
      simp only [totalFood]
      rw [total_lay hn (fun d hd => f d (List.mem_cons_of_mem _ hd)) (fun d hd => h d (List.mem_cons_of_mem _ hd))]
      omega
    · by_cases b : x.f0 = cell
      · simp only [layL, if_neg a, if_pos b] at h ⊢
        have this : 1 ≤ x.f1 + n ∧ x.f1 + n ≤ 10000 := h ⟨x.f0, x.f1 + n⟩ List.mem_cons_self
        simp only [totalFood]
        rw [clamp_id this, clamp_id fx]
        omega
      · simp only [layL, if_neg a, if_neg b] at h ⊢
        have this : 1 ≤ n ∧ n ≤ 10000 := h ⟨cell, n⟩ List.mem_cons_self
        simp only [totalFood]
        rw [clamp_id this]
        omega
theorem depsFrom_less {w h : Int} {c : List Int} {p q : Int} (hq : q ≤ p) : ∀ {l : List S66}, depsFrom w h c p l = true → depsFrom w h c q l = true
  | [], _ => rfl
  | x :: t, e => by
    simp only [depsFrom, Bool.and_eq_true, decide_eq_true_eq] at e ⊢
    exact ⟨e.1, by omega, e.2.2⟩
theorem deps_take {w h : Int} {c : List Int} {cell m : Int} (hm : 1 ≤ m) : ∀ {l : List S66} {p : Int}, depsFrom w h c p l = true → m ≤ foodAt cell l → depsFrom w h c p (takeL cell m l) = true ∧ foodAt cell (takeL cell m l) = foodAt cell l - m
  | [], _, _, q => by simp only [foodAt] at q; omega
  | x :: t, p, e, q => by
    have e' := e
    simp only [depsFrom, Bool.and_eq_true, decide_eq_true_eq] at e'
    have fx := depsFrom_food e x List.mem_cons_self
    have ft := depsFrom_food e'.2.2
    by_cases a : x.f0 = cell
    · have far := depsFrom_far e'.2.2 (show cell ≤ x.f0 by omega)
      simp only [foodAt, if_pos a] at q ⊢
      simp only [takeL, if_pos a]
      rw [takeL_none far ft]
      by_cases z : x.f1 - m > 0
      · rw [if_pos z]
        have ox := e'.1
        unfold okD at ox
        simp only [Bool.and_eq_true, decide_eq_true_eq] at ox
        refine ⟨?_, by simp only [foodAt, if_pos a]⟩
        simp only [depsFrom, Bool.and_eq_true, decide_eq_true_eq]
        refine ⟨?_, e'.2.1, e'.2.2⟩
        unfold okD
        simp only [Bool.and_eq_true, decide_eq_true_eq]
        exact ⟨ox.1, by omega, by omega⟩
      · rw [if_neg z]
        exact ⟨depsFrom_less (by omega) e'.2.2, by rw [foodAt_none far]; omega⟩
    · simp only [foodAt, if_neg a] at q ⊢
      obtain ⟨r0, r1⟩ := deps_take hm e'.2.2 q
      simp only [takeL, if_neg a, if_pos (show x.f1 > 0 by omega)]
      refine ⟨?_, by simp only [foodAt, if_neg a]; exact r1⟩
      simp only [depsFrom, Bool.and_eq_true, decide_eq_true_eq]
      exact ⟨e'.1, e'.2.1, r0⟩
theorem areDeps_from {w h : Int} {c : List Int} {l : List S66} (e : areDeps w h c l = true) : depsFrom w h c (-1) l = true ∧ landOk w h c ∧ (l.length : Int) ≤ 20 := by
  unfold areDeps at e
  simpa only [Bool.and_eq_true, decide_eq_true_eq] using e
theorem food_le {w h : Int} {c : List Int} {p cell : Int} {l : List S66} (e : depsFrom w h c p l = true) : 0 ≤ foodAt cell l ∧ foodAt cell l ≤ 10000 := by
  rcases foodAt_mem (cell := cell) (l := l) with q | ⟨d, hd, _, q⟩
  · omega
  · have := depsFrom_food e d hd
    omega
theorem DrawTake_ev {l : List Int} (hl : l.length ≤ 1048576) : ∃ w h c d cell n, Ev (fun k => spec_DrawTake.f k l) (w, h, c, d, cell, n) ∧ d.length ≤ 10 := by
  unfold spec_DrawTake.f
  obtain ⟨s, e0⟩ := l1New_ev hl
  obtain ⟨w, h, c, d, i1, s1, e1, c1, _, n1⟩ := l8Any_ev s (curStart hl)
  obtain ⟨x, i2, s2, e2, b2, c2⟩ := l1Below_some s1 (n := 22) (by omega) c1
  have jn : ∀ (b : Bool) (i s : Int), curOk l i → (b = true → 0 < d.length) → ∃ cell n, Ev (fun k => spec_DrawTake.j0 k d x b l i s w h c) (w, h, c, d, cell, n) := by
    intro b i s hc hb
    have go : ∀ (y : Int), ∃ n, Ev (fun k => (spec_FoodAt.f k d y).bind fun t => (spec_FoodAt.f k d y).bind fun u => (spec_l1Int.f l i s [1, 3, t, wrap64 (u + 1), 0]).bind fun z => some (w, h, c, d, y, z.1)) (w, h, c, d, y, n) := by
      intro y
      obtain ⟨n, i3, s3, e3, _, c3⟩ := l1Int_some s (l := [1, 3, foodAt y d, wrap64 (foodAt y d + 1), 0]) (by simp) hc
      refine ⟨n, Ev.bind (spec_FoodAt_ev y (by omega)) (Ev.bind (spec_FoodAt_ev y (by omega)) ?_)⟩
      simp only [e3, Option.bind_some]
      exact Ev.now _
    cases b with
    | true =>
      obtain ⟨n, e⟩ := go (rd_T66 d 0).f0
      refine ⟨_, n, Ev.step (fun k => ?_) e⟩
      simp only [spec_DrawTake.j0, if_true]
      rw [if_pos (by have := hb rfl; omega)]
    | false =>
      obtain ⟨n, e⟩ := go x
      refine ⟨_, n, Ev.step (fun k => ?_) e⟩
      simp only [spec_DrawTake.j0, Bool.false_eq_true, if_false]
  by_cases q : (d.length : Int) > 0
  · obtain ⟨y, i3, s3, e3, c3⟩ := l1Once_some s2 (n := 4) (by omega) c2
    obtain ⟨cell, n, e4⟩ := jn (!y) i3 s3 c3 (fun _ => by omega)
    refine ⟨w, h, c, d, cell, n, Ev.bind e0 (Ev.bind e1 ?_), n1⟩
    simp only [e2, Option.bind_some]
    refine evPos q ?_
    simp only [e3, Option.bind_some]
    exact e4
  · obtain ⟨cell, n, e4⟩ := jn false i2 s2 c2 (fun z => by cases z)
    refine ⟨w, h, c, d, cell, n, Ev.bind e0 (Ev.bind e1 ?_), n1⟩
    simp only [e2, Option.bind_some]
    exact evNeg q e4
theorem second_ev {l : List Int} (hl : l.length ≤ 1048576) : Ev (fun k => laws_FnDepots.j2 k l) true := by
  obtain ⟨w, h, c, d, cell, n, e, hd⟩ := DrawTake_ev hl
  by_cases q : areDeps w h c d = true ∧ (1 ≤ n ∧ n ≤ foodAt cell d)
  · obtain ⟨a0, a1, a2⟩ := areDeps_from q.1
    have fb := food_le (cell := cell) a0
    obtain ⟨r0, r1⟩ := deps_take q.2.1 a0 q.2.2
    have rl := takeL_len cell n d
    have ok : areDeps w h c (takeL cell n d) = true := by
      unfold areDeps
      rw [r0, decide_eq_true a1, decide_eq_true (show ((takeL cell n d).length : Int) ≤ 20 by omega)]
      rfl
    have tk := impl_Take_ev (l := d) w h c cell n (by omega)
    unfold takeRes at tk
    rw [if_pos q] at tk
    refine Ev.step (fun k => rfl) ?_
    simp only [laws_FnDepots.j2]
    refine Ev.bind e (Ev.bind tk (evPos rfl (Ev.bind (impl_AreDepots_ev w h c (by dsimp only; omega)) (evPos ok (Ev.bind (impl_FoodAt_ev cell (by dsimp only; omega)) (Ev.bind (impl_FoodAt_ev cell (by dsimp only; omega)) (evPos ?_ (Ev.now _))))))))
    dsimp only
    rw [wrapId (n := foodAt cell d - n) (by omega) (by omega)]
    exact r1
  · have tk := impl_Take_ev (l := d) w h c cell n (by omega)
    unfold takeRes at tk
    rw [if_neg q] at tk
    refine Ev.step (fun k => rfl) ?_
    simp only [laws_FnDepots.j2]
    refine Ev.bind e (Ev.bind tk (evNeg (by simp) ?_))
    simp only [beq_self_eq_true]
    exact Ev.now _
theorem loop_ev {l : List Int} (hl : l.length ≤ 1048576) {d : List S66} (hd : d.length ≤ 100) : Ev (fun k => laws_FnDepots.l0 k l d d 0) true := by
  have key := evScan d (fun k (_ : Unit) i => laws_FnDepots.l0 k l d d i) (fun _ _ _ => true) (fun _ _ => True) (fun _ _ => by
      refine Ev.step (f := fun k => laws_FnDepots.j2 k l) (fun k => ?_) (second_ev hl)
      simp only [laws_FnDepots.l0]
      rw [if_neg (by omega)]) (fun _ i t hi _ _ ih => by
      refine Ev.step (fun k => ?_) (ih () trivial)
      simp only [laws_FnDepots.l0]
      rw [if_pos (by omega), if_pos (by omega), if_pos (by omega), wrapSucc (by omega)]
      simp)
    () trivial
  exact key
def FnDepots.Claim : Prop := ∀ (l0 : List (Int)), l0.length ≤ maxLen → (∀ x ∈ l0, (Lit.int .u8 x).wf = true) → ∃ k, laws_FnDepots.f k l0 = some true
theorem FnDepots : FnDepots.Claim := by
  intro l _ _
  apply Ev.rounds
  unfold laws_FnDepots.f
  simp only [big_eq, Option.bind_some]
  by_cases hb : (l.length : Int) > 1048576
  · exact evPos (decide_eq_true hb) (Ev.now _)
  refine evNeg (by rw [decide_eq_true_eq]; exact hb) ?_
  have hl : l.length ≤ 1048576 := by omega
  obtain ⟨w, h, c, d, cell, n, e, hd, hn⟩ := DrawLay_ev hl
  refine Ev.bind e (Ev.bind (impl_Lay_ev w h c cell n (by dsimp only; omega)) ?_)
  by_cases q : (areDeps w h c d = true ∧ (1 ≤ n ∧ n ≤ 10000)) ∧ areDeps w h c (layL cell n d) = true
  · have er : layRes w h c d cell n = (layL cell n d, true) := by
      unfold layRes
      rw [if_pos q.1, if_pos q.2]
    rw [er]
    obtain ⟨a0, a1, a2⟩ := areDeps_from q.1.1
    obtain ⟨y0, y1, y2⟩ := areDeps_from q.2
    have fl := food_lay (n := n) (cell := cell) a0
    have fb := food_le (cell := cell) a0
    have tl := total_lay (cell := cell) q.1.2.1 (depsFrom_food a0) (depsFrom_food y0)
    have tb := totalFood_le d
    have ll := layL_len cell n d
    have tk := impl_Take_ev (l := layL cell n d) w h c cell n (by omega)
    unfold takeRes at tk
    rw [if_pos ⟨q.2, by omega, by omega⟩, take_lay q.1.2.1 a0] at tk
    refine evPos rfl (Ev.bind tk (Ev.bind (impl_AreDepots_ev w h c (by dsimp only; omega)) (evPos q.2 (Ev.bind (impl_FoodAt_ev cell (by dsimp only; omega)) (Ev.bind (impl_FoodAt_ev cell (by dsimp only; omega)) (evPos ?_ (Ev.bind (impl_TotalFood_ev (by dsimp only; omega)) (Ev.bind (impl_TotalFood_ev (by dsimp only; omega)) (evPos ?_ (evPos rfl ?_))))))))))
    · dsimp only
      rw [wrapId (n := foodAt cell d + n) (by omega) (by omega)]
      exact fl
    · dsimp only
      rw [wrapId (n := totalFood d + n) (by omega) (by omega)]
      exact tl
    · simp only [bne_self_eq_false]
      refine Ev.step (f := fun k => laws_FnDepots.l0 k l d d 0) (fun k => ?_) (loop_ev hl (by omega))
      simp only [laws_FnDepots.j0, Bool.false_eq_true, if_false]
  · have er : layRes w h c d cell n = (d, false) := by
      unfold layRes
      by_cases q1 : areDeps w h c d = true ∧ (1 ≤ n ∧ n ≤ 10000)
      · rw [if_pos q1, if_neg (fun z => q ⟨q1, z⟩)]
      · rw [if_neg q1]
    rw [er]
    refine evNeg (by simp) (evPos rfl (second_ev hl))
end Go.Proofs.Ytdgpnmbmnnmdcaa.Pure
