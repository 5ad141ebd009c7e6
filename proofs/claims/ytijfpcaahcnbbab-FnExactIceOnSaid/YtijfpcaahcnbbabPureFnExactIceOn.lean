/- For every land and every way, the program's IceOn and the reference's give the same answer: the law's Go function answers true. No condition beyond the kinds of the numbers. -/
import Derived.Test.YtijfpcaahcnbbabPFnExactIceOnx8
import Derived.Test.YtijfpcaahcnbbabAid
namespace Go.Proofs.Ytijfpcaahcnbbab.Pure
open Go.RowKit Go.Proofs.Ytijfpcaahcnbbab.PFnExactIceOn Go.Proofs.Ytijfpcaahcnbbab.Aid Go.Proofs.YtijfpcaahcnbbabW.PrintWords Go.Proofs.YtijfpcaahcnbbabW.PrintLast Go.Proofs.YtijfpcaahcnbbabW.PrintMore
set_option linter.unusedVariables false
set_option linter.unusedSimpArgs false
theorem toIntS_ev {l : List Int} (hl : l.length ≤ 1048576) : Ev (fun k => laws_toIntS.f k l) l := by
  have key := evScan l (fun k (acc : List Int) i => laws_toIntS.l0 k l acc i) (fun _ _ _ => l) (fun acc i => acc.length = l.length ∧ acc.take i = l.take i) (fun acc ⟨h0, h1⟩ => by
      refine Ev.step (f := fun _ => some acc) (fun k => ?_) ?_
      · simp only [laws_toIntS.l0]
        rw [if_neg (by omega)]
      · rw [take_whole h0 h1]
        exact Ev.now _) (fun acc i t h ht ⟨h0, h1⟩ ih => by
      refine Ev.step (fun k => ?_) (ih (acc.set i l[i]) ⟨by simpa using h0, take_set_succ h h0 h1⟩)
      simp only [laws_toIntS.l0]
      rw [if_pos (by omega), if_pos (by omega), if_pos (by omega), rdIn h, wrapSucc (by omega), toNatCast])
    (List.replicate l.length 0) ⟨by simp, by simp⟩
  refine Ev.congr (fun k => ?_) key
  simp only [laws_toIntS.f]
  rw [if_pos (by omega), if_pos (by omega), toNatCast]

theorem eqIntS_ev {a b : List Int} (ha : a.length ≤ 1048576) : Ev (fun k => laws_eqIntS.f k a b) (decide (a = b)) := by
  by_cases e : a.length = b.length
  · have key := evScan a (fun k (_ : Unit) i => laws_eqIntS.l0 k a b i) (fun _ i t => decide (t = b.drop i)) (fun _ _ => True) (fun _ _ => by
        refine Ev.step (f := fun _ => some true) (fun k => ?_) ?_
        · simp only [laws_eqIntS.l0]
          rw [if_neg (by omega)]
        · rw [e, List.drop_length]
          exact Ev.now _) (fun _ i t h ht _ ih => by
        have hb : i < b.length := by omega
        have st : ∀ k, laws_eqIntS.l0 (k + 1) a b (i : Int) = if a[i] = b[i] then laws_eqIntS.l0 k a b ((i + 1 : Nat) : Int) else some false := by
          intro k
          simp only [laws_eqIntS.l0]
          rw [if_pos (by omega), if_pos (by omega), if_pos (by omega), rdIn h, rdIn hb, wrapSucc (by omega)]
        refine Ev.step st ?_
        rw [List.drop_eq_getElem_cons hb]
        by_cases c : a[i] = b[i]
        · refine evPos c ?_
          rw [show decide (a[i] :: t = b[i] :: b.drop (i + 1)) = decide (t = b.drop (i + 1)) by rw [decide_eq_decide, List.cons.injEq, and_iff_right c]]
          exact ih () trivial
        · refine evNeg c ?_
          rw [show decide (a[i] :: t = b[i] :: b.drop (i + 1)) = false by rw [decide_eq_false_iff_not, List.cons.injEq]; exact fun e => c e.1]
          exact Ev.now _)
      () trivial
    refine Ev.congr (fun k => ?_) key
    simp only [laws_eqIntS.f]
    rw [if_pos (by omega)]
  · have ne : ¬ a = b := fun h => e (by rw [h])
    refine Ev.congr (f := fun _ => some (decide (a = b))) (fun k => ?_) (Ev.now _)
    simp only [laws_eqIntS.f]
    rw [if_neg (by omega), decide_eq_false ne]
theorem eqIntS_same {a : List Int} (ha : a.length ≤ 1048576) : Ev (fun k => laws_eqIntS.f k a a) true := by
  have := eqIntS_ev (a := a) (b := a) ha
  rwa [decide_eq_true rfl] at this

theorem szIntS_ok {l : List Int} {q : Int} (hl : l.length ≤ maxLen) (h0 : 0 ≤ q) (h1 : q ≤ 1048576) : laws_szIntS.f l q = some (if (l.length : Int) ≤ q then q - (l.length : Int) else -1) := by
  unfold laws_szIntS.f
  unfold maxLen at hl
  rw [wrapId (n := q - (l.length : Int)) (by omega) (by omega)]
  by_cases c : (l.length : Int) ≤ q
  · rw [if_neg (by omega), if_pos c]
  · rw [if_pos (by omega), if_neg c]
theorem szLand_ok {w h : Int} {l : List Int} {q : Int} (hl : l.length ≤ maxLen) (h0 : 0 ≤ q) (h1 : q ≤ 1048576) : laws_szLand.f w h l q = some (if (l.length : Int) ≤ q then q - (l.length : Int) else -1) := by
  unfold laws_szLand.f
  rw [szIntS_ok hl h0 h1, Option.bind_some]
  by_cases c : (l.length : Int) ≤ q
  · rw [if_pos c, if_neg (by omega)]
  · rw [if_neg c, if_pos (by omega)]
theorem toLand_ev {w h : Int} {l : List Int} (hl : l.length ≤ 1048576) : Ev (fun k => laws_toLand.f k w h l) (w, h, l) := by
  unfold laws_toLand.f
  exact Ev.bind (toIntS_ev hl) (Ev.now _)
theorem eqLand_same {w h : Int} {l : List Int} (hl : l.length ≤ 1048576) : Ev (fun k => laws_eqLand.f k w h l w h l) true := by
  unfold laws_eqLand.f
  exact evPos rfl (evPos rfl (Ev.bind (eqIntS_same hl) (evPos rfl (Ev.now _))))

def inB (lo hi : Int) (l : List Int) : Bool := l.all (fun x => decide (lo ≤ x ∧ x ≤ hi))
theorem inB_iff {lo hi : Int} {l : List Int} : inB lo hi l = true ↔ ∀ x ∈ l, lo ≤ x ∧ x ≤ hi := by
  unfold inB
  simp only [List.all_eq_true, decide_eq_true_eq]
theorem inB_yes {lo hi x : Int} {t : List Int} (d : lo ≤ x ∧ x ≤ hi) : inB lo hi (x :: t) = inB lo hi t := by
  simp only [inB, List.all_cons, d, and_self, decide_true, Bool.true_and]
theorem inB_no {lo hi x : Int} {t : List Int} (d : ¬ (lo ≤ x ∧ x ≤ hi)) : inB lo hi (x :: t) = false := by
  simp only [inB, List.all_cons, d, decide_false, Bool.false_and]
/-- A land: its sides, its cells. -/
def landOk (w h : Int) (c : List Int) : Prop := ((1 ≤ w ∧ w ≤ 8) ∧ (1 ≤ h ∧ h ≤ 8)) ∧ (c.length : Int) = w * h ∧ ∀ x ∈ c, 0 ≤ x ∧ x ≤ 2
instance (w h : Int) (c : List Int) : Decidable (landOk w h c) := inferInstanceAs (Decidable (_ ∧ _))
def cellOk (w h : Int) (c : List Int) (n : Int) : Prop := landOk w h c ∧ 0 ≤ n ∧ n < (c.length : Int)
instance (w h : Int) (c : List Int) (n : Int) : Decidable (cellOk w h c n) := inferInstanceAs (Decidable (_ ∧ _))
def openOk (w h : Int) (c : List Int) (n : Int) : Prop := cellOk w h c n ∧ rd c n ≠ 2
instance (w h : Int) (c : List Int) (n : Int) : Decidable (openOk w h c n) := inferInstanceAs (Decidable (_ ∧ _))
theorem sideB {w h : Int} (hw : 1 ≤ w ∧ w ≤ 8) (hh : 1 ≤ h ∧ h ≤ 8) : 1 ≤ w * h ∧ w * h ≤ 64 := by
  have h0 : 1 * 1 ≤ w * h := Int.mul_le_mul hw.1 hh.1 (by omega) (by omega)
  have h1 : w * h ≤ 8 * 8 := Int.mul_le_mul hw.2 hh.2 (by omega) (by omega)
  omega
theorem landOk.len {w h : Int} {c : List Int} (x : landOk w h c) : 1 ≤ c.length ∧ c.length ≤ 64 := by
  have := sideB x.1.1 x.1.2
  have := x.2.1
  omega

def absI (x : Int) : Int := if x < 0 then -x else x
/-- How far two cells are from each other. -/
def apart (w h : Int) (c : List Int) (a b : Int) : Int := if cellOk w h c a ∧ cellOk w h c b then absI (a % w - b % w) + absI (a / w - b / w) else -1
theorem modB {w a : Int} (hw : 1 ≤ w ∧ w ≤ 8) (ha : 0 ≤ a) (h1 : a ≤ 64) : Int.tmod a w = a % w ∧ Int.tdiv a w = a / w ∧ 0 ≤ a % w ∧ a % w < 8 ∧ 0 ≤ a / w ∧ a / w ≤ 64 := by
  have e0 := Int.emod_nonneg a (show w ≠ 0 by omega)
  have e1 := Int.emod_lt_of_pos a (show 0 < w by omega)
  have e2 := Int.ediv_nonneg ha (show 0 ≤ w by omega)
  have e3 := Int.ediv_le_self w ha
  exact ⟨Int.tmod_eq_emod_of_nonneg ha, Int.tdiv_eq_ediv_of_nonneg ha, e0, by omega, e2, by omega⟩

/-- The open cells beside the cell n of a land, in the order above, left, right, below. -/
def nearS (w : Int) (c : List Int) (n : Int) : List Int :=
  (if w ≤ n ∧ rd c (n - w) ≠ 2 then [n - w] else []) ++ (if 0 < n % w ∧ rd c (n - 1) ≠ 2 then [n - 1] else []) ++ (if n % w < w - 1 ∧ rd c (n + 1) ≠ 2 then [n + 1] else []) ++ (if n + w < (c.length : Int) ∧ rd c (n + w) ≠ 2 then [n + w] else [])
theorem side8 {w : Int} (hw : 1 ≤ w ∧ w ≤ 8) : w = 1 ∨ w = 2 ∨ w = 3 ∨ w = 4 ∨ w = 5 ∨ w = 6 ∨ w = 7 ∨ w = 8 := by omega
theorem rowMul {w h n : Int} (hw : 1 ≤ w ∧ w ≤ 8) (hn : n < w * h) (hm : n % w < w - 1) : n + 1 < w * h := by
  rcases side8 hw with rfl | rfl | rfl | rfl | rfl | rfl | rfl | rfl <;> omega
theorem apart_up {w n : Int} (hw : 1 ≤ w ∧ w ≤ 8) : absI (n % w - (n - w) % w) + absI (n / w - (n - w) / w) = 1 := by
  unfold absI
  rcases side8 hw with rfl | rfl | rfl | rfl | rfl | rfl | rfl | rfl <;> (repeat' split) <;> omega
theorem apart_down {w n : Int} (hw : 1 ≤ w ∧ w ≤ 8) : absI (n % w - (n + w) % w) + absI (n / w - (n + w) / w) = 1 := by
  unfold absI
  rcases side8 hw with rfl | rfl | rfl | rfl | rfl | rfl | rfl | rfl <;> (repeat' split) <;> omega
theorem apart_left {w n : Int} (hw : 1 ≤ w ∧ w ≤ 8) (h2 : 2 ≤ w) : absI (n % w - (n - 1) % w) + absI (n / w - (n - 1) / w) = 1 ↔ 0 < n % w := by
  unfold absI
  rcases side8 hw with rfl | rfl | rfl | rfl | rfl | rfl | rfl | rfl <;> (repeat' split) <;> omega
theorem apart_right {w n : Int} (hw : 1 ≤ w ∧ w ≤ 8) (h2 : 2 ≤ w) : absI (n % w - (n + 1) % w) + absI (n / w - (n + 1) / w) = 1 ↔ n % w < w - 1 := by
  unfold absI
  rcases side8 hw with rfl | rfl | rfl | rfl | rfl | rfl | rfl | rfl <;> (repeat' split) <;> omega
/-- Beside each other is: one apart. -/
theorem beside {w a b : Int} (hw : 1 ≤ w ∧ w ≤ 8) : absI (a % w - b % w) + absI (a / w - b / w) = 1 ↔ (b = a - w ∨ (b = a - 1 ∧ 0 < a % w) ∨ (b = a + 1 ∧ a % w < w - 1) ∨ b = a + w) := by
  unfold absI
  rcases side8 hw with rfl | rfl | rfl | rfl | rfl | rfl | rfl | rfl <;> (repeat' split) <;> omega
theorem mem_nearS {w h : Int} {c : List Int} (hl : landOk w h c) {a b : Int} (ha : cellOk w h c a) : b ∈ nearS w c a ↔ (openOk w h c b ∧ apart w h c a b = 1) := by
  have hw := hl.1.1
  have ha1 := ha.2.1
  have ha2 := ha.2.2
  have hc := hl.2.1
  have key : (openOk w h c b ∧ apart w h c a b = 1) ↔ ((0 ≤ b ∧ b < (c.length : Int)) ∧ rd c b ≠ 2) ∧ (b = a - w ∨ (b = a - 1 ∧ 0 < a % w) ∨ (b = a + 1 ∧ a % w < w - 1) ∨ b = a + w) := by
    constructor
    · rintro ⟨ho, h1⟩
      unfold apart at h1
      rw [if_pos ⟨ha, ho.1⟩] at h1
      exact ⟨⟨ho.1.2, ho.2⟩, (beside hw).1 h1⟩
    · rintro ⟨⟨hb, hr⟩, h1⟩
      have hb' : cellOk w h c b := ⟨hl, hb⟩
      unfold apart
      rw [if_pos ⟨ha, hb'⟩]
      exact ⟨⟨hb', hr⟩, (beside hw).2 h1⟩
  rw [key]
  unfold nearS
  simp only [List.mem_append]
  have m1 : ∀ (p : Prop) [Decidable p] (x : Int), b ∈ (if p then [x] else []) ↔ p ∧ b = x := by
    intro p _ x
    by_cases q : p
    · simp [q]
    · simp [q]
  rw [m1, m1, m1, m1]
  constructor
  · rintro (((⟨⟨p, q⟩, rfl⟩ | ⟨⟨p, q⟩, rfl⟩) | ⟨⟨p, q⟩, rfl⟩) | ⟨⟨p, q⟩, rfl⟩)
    · exact ⟨⟨⟨by omega, by omega⟩, q⟩, .inl rfl⟩
    · have h0 : 0 < a := by
        rcases Int.lt_or_le 0 a with x | x
        · exact x
        · obtain rfl : a = 0 := by omega
          simp at p
      exact ⟨⟨⟨by omega, by omega⟩, q⟩, .inr (.inl ⟨rfl, p⟩)⟩
    · have := rowMul (h := h) hw (by omega) p
      exact ⟨⟨⟨by omega, by omega⟩, q⟩, .inr (.inr (.inl ⟨rfl, p⟩))⟩
    · exact ⟨⟨⟨by omega, by omega⟩, q⟩, .inr (.inr (.inr rfl))⟩
  · rintro ⟨⟨⟨p0, p1⟩, q⟩, (rfl | ⟨rfl, r⟩ | ⟨rfl, r⟩ | rfl)⟩
    · exact .inl (.inl (.inl ⟨⟨by omega, q⟩, rfl⟩))
    · exact .inl (.inl (.inr ⟨⟨r, q⟩, rfl⟩))
    · exact .inl (.inr ⟨⟨r, q⟩, rfl⟩)
    · exact .inr ⟨⟨p1, q⟩, rfl⟩
theorem absI_neg (x : Int) : absI (-x) = absI x := by
  unfold absI
  repeat' split
  all_goals omega
theorem apart_comm (w h : Int) (c : List Int) (a b : Int) : apart w h c a b = apart w h c b a := by
  unfold apart
  by_cases q : cellOk w h c a ∧ cellOk w h c b
  · rw [if_pos q, if_pos q.symm, ← absI_neg (a % w - b % w), ← absI_neg (a / w - b / w), show -(a % w - b % w) = b % w - a % w by omega, show -(a / w - b / w) = b / w - a / w by omega]
  · rw [if_neg q, if_neg (fun x => q x.symm)]
theorem nearS_len (w : Int) (c : List Int) (n : Int) : (nearS w c n).length ≤ 4 := by
  unfold nearS
  simp only [List.length_append]
  have l1 : ∀ (p : Prop) [Decidable p] (x : Int), (if p then [x] else []).length ≤ 1 := by
    intro p _ x
    by_cases q : p
    · simp [q]
    · simp [q]
  have := l1 (w ≤ n ∧ rd c (n - w) ≠ 2) (n - w)
  have := l1 (0 < n % w ∧ rd c (n - 1) ≠ 2) (n - 1)
  have := l1 (n % w < w - 1 ∧ rd c (n + 1) ≠ 2) (n + 1)
  have := l1 (n + w < (c.length : Int) ∧ rd c (n + w) ≠ 2) (n + w)
  omega

/-- A way: its cells are open, each beside the one before it. p: is there one before, and which. -/
def wayFrom (w h : Int) (c : List Int) : Option Int → List Int → Bool
  | _, [] => true
  | none, m :: t => decide (openOk w h c m) && wayFrom w h c (some m) t
  | some p, m :: t => (decide (openOk w h c m) && decide (apart w h c p m = 1)) && wayFrom w h c (some m) t
def wayS (w h : Int) (c : List Int) (l : List Int) : Bool := wayFrom w h c none l && decide (0 < l.length)
def prevW (l : List Int) (i : Nat) : Option Int := if i = 0 then none else some (l.getD (i - 1) 0)
theorem prevW_succ {l : List Int} {i : Nat} (h : i < l.length) : prevW l (i + 1) = some l[i] := by
  unfold prevW
  rw [if_neg (by omega), Nat.add_sub_cancel, getD_lt h]
theorem prevW_pos {l : List Int} {i : Nat} (hl : l.length ≤ 100000000) (h : i < l.length) (h0 : 0 < i) : prevW l i = some (rd l (wrap64 ((i : Int) - 1))) := by
  rw [wrapId (n := (i : Int) - 1) (by omega) (by omega), show ((i : Int) - 1) = ((i - 1 : Nat) : Int) by omega, rdIn (by omega)]
  unfold prevW
  rw [if_neg (by omega), getD_lt (by omega)]
theorem wayFrom_open {w h : Int} {c : List Int} : ∀ {l : List Int} {p : Option Int}, wayFrom w h c p l = true → ∀ m ∈ l, openOk w h c m
  | [], _, _, m, hm => by cases hm
  | x :: t, none, e, m, hm => by
    simp only [wayFrom, Bool.and_eq_true, decide_eq_true_eq] at e
    rcases List.mem_cons.1 hm with rfl | hm
    · exact e.1
    · exact wayFrom_open e.2 m hm
  | x :: t, some p, e, m, hm => by
    simp only [wayFrom, Bool.and_eq_true, decide_eq_true_eq] at e
    rcases List.mem_cons.1 hm with rfl | hm
    · exact e.1.1
    · exact wayFrom_open e.2 m hm
theorem wayS_open {w h : Int} {c l : List Int} (e : wayS w h c l = true) : ∀ m ∈ l, openOk w h c m := by
  unfold wayS at e
  rw [Bool.and_eq_true] at e
  exact wayFrom_open e.1
/-- How many cells of a list are ice. -/
def iceIn (c : List Int) : List Int → Int
  | [] => 0
  | m :: t => (if rd c m = 1 then 1 else 0) + iceIn c t
theorem iceIn_le (c : List Int) : ∀ l, 0 ≤ iceIn c l ∧ iceIn c l ≤ (l.length : Int)
  | [] => by simp [iceIn]
  | m :: t => by
    have := iceIn_le c t
    simp only [iceIn, List.length_cons]
    split <;> omega
def iceOn (w h : Int) (c l : List Int) : Int := if wayS w h c l = true then iceIn c l else 0

theorem inRange_eq (a b c : Int) : impl_InRange.f a b c = some (decide (b ≤ a ∧ a ≤ c)) := by
  unfold impl_InRange.f
  by_cases h : b ≤ a
  · rw [if_pos h]
    simp [h]
  · rw [if_neg h]
    simp [h]

theorem allIn_ev {l : List Int} (lo hi : Int) (hl : l.length ≤ 100000000) : Ev (fun k => impl_allIn.f k l lo hi) (inB lo hi l) := by
  have key := evScan l (fun k (_ : Unit) i => impl_allIn.l0 k lo hi l (l.length : Int) i) (fun _ _ t => inB lo hi t) (fun _ _ => True) (fun _ _ => by
      rw [show inB lo hi [] = true from rfl]
      refine Ev.step (f := fun _ => some true) (fun k => ?_) (Ev.now _)
      simp only [impl_allIn.l0]
      rw [if_neg (by omega)]) (fun _ i t h _ _ ih => by
      have st : ∀ k, impl_allIn.l0 (k + 1) lo hi l (l.length : Int) (i : Int) = if decide (lo ≤ l[i] ∧ l[i] ≤ hi) = true then impl_allIn.l0 k lo hi l (l.length : Int) ((i + 1 : Nat) : Int) else some false := by
        intro k
        simp only [impl_allIn.l0, inRange_eq, Option.bind_some]
        rw [if_pos (by omega), if_pos (by omega), if_pos (by omega), rdIn h, wrapSucc (by omega)]
      refine Ev.step st ?_
      by_cases d : lo ≤ l[i] ∧ l[i] ≤ hi
      · refine evPos (decide_eq_true d) ?_
        rw [inB_yes d]
        exact ih () trivial
      · refine evNeg (by rw [decide_eq_true_eq]; exact d) ?_
        rw [inB_no d]
        exact Ev.now _)
    () trivial
  unfold impl_allIn.f
  exact key
theorem impl_IsLand_ev (w h : Int) (c : List Int) : Ev (fun k => impl_IsLand.f k w h c) (decide (landOk w h c)) := by
  unfold impl_IsLand.f
  simp only [inRange_eq, Option.bind_some]
  by_cases c0 : 1 ≤ w ∧ w ≤ 8
  · refine evPos (decide_eq_true c0) ?_
    by_cases c1 : 1 ≤ h ∧ h ≤ 8
    · have sb := sideB c0 c1
      refine evPos (decide_eq_true c1) ?_
      rw [wrapId (n := w * h) (by omega) (by omega)]
      by_cases c2 : (c.length : Int) = w * h
      · refine evPos c2 (Ev.bind (allIn_ev 0 2 (by omega)) ?_)
        rw [show decide (landOk w h c) = inB 0 2 c by rw [Bool.eq_iff_iff, decide_eq_true_eq, inB_iff]; exact ⟨fun x => x.2.2, fun x => ⟨⟨c0, c1⟩, c2, x⟩⟩]
        exact Ev.now _
      · rw [decide_eq_false (fun x : landOk w h c => c2 x.2.1)]
        exact evNeg c2 (Ev.now _)
    · rw [decide_eq_false (fun x : landOk w h c => c1 x.1.2)]
      exact evNeg (by rw [decide_eq_true_eq]; exact c1) (Ev.now _)
  · rw [decide_eq_false (fun x : landOk w h c => c0 x.1.1)]
    exact evNeg (by rw [decide_eq_true_eq]; exact c0) (Ev.now _)
theorem impl_IsCell_ev (w h : Int) (c : List Int) (n : Int) : Ev (fun k => impl_IsCell.f k w h c n) (decide (cellOk w h c n)) := by
  unfold impl_IsCell.f
  refine Ev.bind (impl_IsLand_ev w h c) ?_
  by_cases q : landOk w h c
  · refine evPos (decide_eq_true q) ?_
    have := q.len
    simp only [inRange_eq, Option.bind_some]
    rw [wrapId (n := (c.length : Int) - 1) (by omega) (by omega), show decide (cellOk w h c n) = decide (0 ≤ n ∧ n ≤ (c.length : Int) - 1) by rw [decide_eq_decide]; exact ⟨fun x => ⟨x.2.1, by have := x.2.2; omega⟩, fun x => ⟨q, x.1, by omega⟩⟩]
    exact Ev.now _
  · rw [decide_eq_false (fun x : cellOk w h c n => q x.1)]
    exact evNeg (by rw [decide_eq_true_eq]; exact q) (Ev.now _)

theorem impl_IsOpen_ev (w h : Int) (c : List Int) (n : Int) : Ev (fun k => impl_IsOpen.f k w h c n) (decide (openOk w h c n)) := by
  unfold impl_IsOpen.f
  refine Ev.bind (impl_IsCell_ev w h c n) ?_
  by_cases q : cellOk w h c n
  · refine evPos (decide_eq_true q) (evPos q.2.1 (evPos q.2.2 ?_))
    rw [show decide (openOk w h c n) = (rd c n != 2) by rw [Bool.eq_iff_iff, decide_eq_true_eq, bne_iff_ne]; exact ⟨fun x => x.2, fun x => ⟨q, x⟩⟩]
    exact Ev.now _
  · rw [decide_eq_false (fun x : openOk w h c n => q x.1)]
    exact evNeg (by rw [decide_eq_true_eq]; exact q) (Ev.now _)

theorem impl_Apart_ev (w h : Int) (c : List Int) (a b : Int) : Ev (fun k => impl_Apart.f k w h c a b) (apart w h c a b) := by
  have no : ¬ (cellOk w h c a ∧ cellOk w h c b) → Ev (fun k => impl_Apart.j0 k a b true w h c) (apart w h c a b) := by
    intro q
    unfold apart
    rw [if_neg q]
    refine Ev.step (f := fun _ => some (-1)) (fun k => ?_) (Ev.now _)
    simp only [impl_Apart.j0, if_true]
  unfold impl_Apart.f
  refine Ev.bind (impl_IsCell_ev w h c a) ?_
  by_cases qa : cellOk w h c a
  · refine evPos (decide_eq_true qa) (Ev.bind (impl_IsCell_ev w h c b) ?_)
    by_cases qb : cellOk w h c b
    · rw [decide_eq_true qb]
      unfold apart
      rw [if_pos ⟨qa, qb⟩]
      have hw := qa.1.1.1
      have hl := qa.1.len
      have ma := modB hw qa.2.1 (by have := qa.2.2; omega)
      have mb := modB hw qb.2.1 (by have := qb.2.2; omega)
      refine Ev.step (f := fun _ => some (absI (a % w - b % w) + absI (a / w - b / w))) (fun k => ?_) (Ev.now _)
      simp only [impl_Apart.j0, Bool.not_true, Bool.false_eq_true, if_false, impl_size.f, Option.bind_some, ma.1, mb.1, ma.2.1, mb.2.1]
      rw [if_neg (by omega), wrapId (n := a / w) (by omega) (by omega), wrapId (n := b / w) (by omega) (by omega), wrapId (n := a % w - b % w) (by omega) (by omega), wrapId (n := a / w - b / w) (by omega) (by omega), wrapId (n := -(a % w - b % w)) (by omega) (by omega), wrapId (n := -(a / w - b / w)) (by omega) (by omega)]
      have e0 : mx (a % w - b % w) (-(a % w - b % w)) = absI (a % w - b % w) := by unfold mx absI; repeat' split; all_goals omega
      have e1 : mx (a / w - b / w) (-(a / w - b / w)) = absI (a / w - b / w) := by unfold mx absI; repeat' split; all_goals omega
      rw [e0, e1, wrapId]
      · unfold absI
        repeat' split
        all_goals omega
      · unfold absI
        repeat' split
        all_goals omega
    · rw [decide_eq_false qb]
      exact no (fun x => qb x.2)
  · exact evNeg (by rw [decide_eq_true_eq]; exact qa) (no (fun x => qa x.1))

theorem compact_asc {l : List Int} (hl : l.Pairwise (· < ·)) : Go.Lib.compact l = l := by
  refine Go.Lib.compact_all l (fun j hj => ?_)
  rcases Nat.eq_zero_or_pos j with rfl | h0
  · simp [Go.Lib.keeps]
  · have h1 : j - 1 < l.length := by omega
    have := List.pairwise_iff_getElem.1 hl (j - 1) j h1 hj (by omega)
    simp only [Go.Lib.keeps, decide_eq_true_eq]
    right
    simp only [List.getElem!_toArray]
    rw [getElem!_pos l j hj, getElem!_pos l (j - 1) h1]
    omega
theorem compact2 (a : Int) : Go.Lib.compact [a, a] = [a] := by
  have k0 : Go.Lib.keeps #[a, a] 0 = true := by simp [Go.Lib.keeps]
  have k1 : Go.Lib.keeps #[a, a] 1 = false := by simp [Go.Lib.keeps]
  show Go.Lib.compactUpTo #[a, a] (0 + 1 + 1) = _
  rw [Go.Lib.compactUpTo_succ, Go.Lib.compactUpTo_succ, k0, k1]
  simp [Go.Lib.compactUpTo]
theorem compact4 {a b : Int} (h : b ≠ a) : Go.Lib.compact [a, a, b, b] = [a, b] := by
  have k0 : Go.Lib.keeps #[a, a, b, b] 0 = true := by simp [Go.Lib.keeps]
  have k1 : Go.Lib.keeps #[a, a, b, b] 1 = false := by simp [Go.Lib.keeps]
  have k2 : Go.Lib.keeps #[a, a, b, b] 2 = true := by simp [Go.Lib.keeps, h]
  have k3 : Go.Lib.keeps #[a, a, b, b] 3 = false := by simp [Go.Lib.keeps]
  show Go.Lib.compactUpTo #[a, a, b, b] (0 + 1 + 1 + 1 + 1) = _
  rw [Go.Lib.compactUpTo_succ, Go.Lib.compactUpTo_succ, Go.Lib.compactUpTo_succ, Go.Lib.compactUpTo_succ, k0, k1, k2, k3]
  simp [Go.Lib.compactUpTo]
def beP (w h : Int) (c : List Int) (n m : Int) : Bool := decide (openOk w h c m ∧ apart w h c n m = 1)
theorem near_compact {w h : Int} {c : List Int} {n : Int} (hn : cellOk w h c n) : Go.Lib.compact ([n - w, n - 1, n + 1, n + w].filter (beP w h c n)) = nearS w c n := by
  have hw := hn.1.1.1
  have hc := hn.1.2.1
  have hlen := hn.1.len
  have h0 := hn.2.1
  have h1 := hn.2.2
  have key : ∀ m, beP w h c n m = true ↔ (0 ≤ m ∧ m < (c.length : Int)) ∧ rd c m ≠ 2 ∧ (m = n - w ∨ (m = n - 1 ∧ 0 < n % w) ∨ (m = n + 1 ∧ n % w < w - 1) ∨ m = n + w) := by
    intro m
    unfold beP
    rw [decide_eq_true_eq, ← beside hw]
    constructor
    · rintro ⟨ho, ha⟩
      unfold apart at ha
      rw [if_pos ⟨hn, ho.1⟩] at ha
      exact ⟨ho.1.2, ho.2, ha⟩
    · rintro ⟨hm, hr, ha⟩
      have hm' : cellOk w h c m := ⟨hn.1, hm⟩
      refine ⟨⟨hm', hr⟩, ?_⟩
      unfold apart
      rw [if_pos ⟨hn, hm'⟩]
      exact ha
  by_cases hw1 : w = 1
  · subst hw1
    have e0 : beP 1 h c n (n - 1) = decide ((1 : Int) ≤ n ∧ rd c (n - 1) ≠ 2) := by
      rw [Bool.eq_iff_iff, key, decide_eq_true_eq]
      constructor
      · rintro ⟨a, b, _⟩
        exact ⟨by omega, b⟩
      · rintro ⟨a, b⟩
        exact ⟨by omega, b, .inl rfl⟩
    have e1 : beP 1 h c n (n + 1) = decide (n + 1 < (c.length : Int) ∧ rd c (n + 1) ≠ 2) := by
      rw [Bool.eq_iff_iff, key, decide_eq_true_eq]
      constructor
      · rintro ⟨a, b, _⟩
        exact ⟨by omega, b⟩
      · rintro ⟨a, b⟩
        exact ⟨by omega, b, .inr (.inr (.inr rfl))⟩
    have ne : n + 1 ≠ n - 1 := by omega
    unfold nearS
    rw [if_neg (show ¬ (0 < n % 1 ∧ rd c (n - 1) ≠ 2) by omega), if_neg (show ¬ (n % 1 < 1 - 1 ∧ rd c (n + 1) ≠ 2) by omega), List.append_nil, List.append_nil]
    simp only [List.filter_cons, List.filter_nil, e0, e1, decide_eq_true_eq]
    by_cases p : (1 : Int) ≤ n ∧ rd c (n - 1) ≠ 2
    · by_cases q : n + 1 < (c.length : Int) ∧ rd c (n + 1) ≠ 2
      · rw [if_pos p, if_pos p, if_pos q, if_pos q, if_pos p, compact4 ne]
        rfl
      · rw [if_pos p, if_pos p, if_neg q, if_neg q, if_pos p, compact2]
        rfl
    · by_cases q : n + 1 < (c.length : Int) ∧ rd c (n + 1) ≠ 2
      · rw [if_neg p, if_neg p, if_pos q, if_pos q, if_neg p, compact2]
        rfl
      · rw [if_neg p, if_neg p, if_neg q, if_neg q, if_neg p]
        rfl
  · have hw2 : 2 ≤ w := by omega
    rw [compact_asc (List.Pairwise.filter _ (by simp; omega))]
    have f0 : beP w h c n (n - w) = decide (w ≤ n ∧ rd c (n - w) ≠ 2) := by
      rw [Bool.eq_iff_iff, key, decide_eq_true_eq]
      constructor
      · rintro ⟨a, b, _⟩
        exact ⟨by omega, b⟩
      · rintro ⟨a, b⟩
        exact ⟨by omega, b, .inl rfl⟩
    have f1 : beP w h c n (n - 1) = decide (0 < n % w ∧ rd c (n - 1) ≠ 2) := by
      rw [Bool.eq_iff_iff, key, decide_eq_true_eq]
      constructor
      · rintro ⟨a, b, (d | d | d | d)⟩
        · omega
        · exact ⟨d.2, b⟩
        · omega
        · omega
      · rintro ⟨a, b⟩
        have hp : 0 < n := by
          rcases Int.lt_or_le 0 n with x | x
          · exact x
          · obtain rfl : n = 0 := by omega
            simp at a
        exact ⟨by omega, b, .inr (.inl ⟨rfl, a⟩)⟩
    have f2 : beP w h c n (n + 1) = decide (n % w < w - 1 ∧ rd c (n + 1) ≠ 2) := by
      rw [Bool.eq_iff_iff, key, decide_eq_true_eq]
      constructor
      · rintro ⟨a, b, (d | d | d | d)⟩
        · omega
        · omega
        · exact ⟨d.2, b⟩
        · omega
      · rintro ⟨a, b⟩
        have := rowMul (h := h) hw (by omega) a
        exact ⟨by omega, b, .inr (.inr (.inl ⟨rfl, a⟩))⟩
    have f3 : beP w h c n (n + w) = decide (n + w < (c.length : Int) ∧ rd c (n + w) ≠ 2) := by
      rw [Bool.eq_iff_iff, key, decide_eq_true_eq]
      constructor
      · rintro ⟨a, b, _⟩
        exact ⟨by omega, b⟩
      · rintro ⟨a, b⟩
        exact ⟨by omega, b, .inr (.inr (.inr rfl))⟩
    simp only [List.filter_cons, List.filter_nil, f0, f1, f2, f3, decide_eq_true_eq]
    unfold nearS
    have app : ∀ (a b d e : Prop) [Decidable a] [Decidable b] [Decidable d] [Decidable e] (x y z t : Int), (if a then x :: (if b then y :: (if d then z :: (if e then [t] else []) else (if e then [t] else [])) else (if d then z :: (if e then [t] else []) else (if e then [t] else []))) else (if b then y :: (if d then z :: (if e then [t] else []) else (if e then [t] else [])) else (if d then z :: (if e then [t] else []) else (if e then [t] else [])))) = (((if a then [x] else []) ++ (if b then [y] else [])) ++ (if d then [z] else [])) ++ (if e then [t] else []) := by
      intro a b d e _ _ _ _ x y z t
      by_cases ha : a <;> by_cases hb : b <;> by_cases hd : d <;> by_cases he : e <;> simp [ha, hb, hd, he]
    exact app _ _ _ _ _ _ _ _
theorem impl_Near_ev {w h : Int} {c : List Int} {n : Int} (hn : cellOk w h c n) : Ev (fun k => impl_Near.f k w h c n) (nearS w c n) := by
  have hw := hn.1.1.1
  have hlen := hn.1.len
  have h0 := hn.2.1
  have h1 := hn.2.2
  unfold impl_Near.f
  refine Ev.bind (impl_IsCell_ev w h c n) (evPos (decide_eq_true hn) ?_)
  simp only [Option.bind_some]
  rw [wrapId (n := n - w) (by omega) (by omega), wrapId (n := n - 1) (by omega) (by omega), wrapId (n := n + 1) (by omega) (by omega), wrapId (n := n + w) (by omega) (by omega)]
  have key := evScan [n - w, n - 1, n + 1, n + w] (fun k (acc : List Int) i => impl_Near.l0 k n acc [n - w, n - 1, n + 1, n + w] (([n - w, n - 1, n + 1, n + w] : List Int).length : Int) i w h c) (fun acc i t => Go.Lib.compact (acc ++ t.filter (beP w h c n))) (fun acc i => acc.length ≤ i) (fun acc _ => by
      refine Ev.step (f := fun _ => some (Go.Lib.compact acc)) (fun k => ?_) ?_
      · simp only [impl_Near.l0, slices_Compact_int_int.f, Option.bind_some]
        rw [if_neg (by omega)]
      · simp only [List.filter_nil, List.append_nil]
        exact Ev.now _) (fun acc i t hi _ ha ih => by
      generalize hL : [n - w, n - 1, n + 1, n + w] = L at *
      have hL4 : L.length = 4 := by rw [← hL]; rfl
      have st : ∀ k, impl_Near.l0 (k + 1) n acc L (L.length : Int) (i : Int) w h c = (impl_IsOpen.f k w h c L[i]).bind fun o => if o = true then ((impl_Apart.f k w h c n L[i]).bind fun d => if d = 1 then impl_Near.l0 k n (acc ++ [L[i]]) L (L.length : Int) ((i + 1 : Nat) : Int) w h c else impl_Near.l0 k n acc L (L.length : Int) ((i + 1 : Nat) : Int) w h c) else impl_Near.l0 k n acc L (L.length : Int) ((i + 1 : Nat) : Int) w h c := by
        intro k
        simp only [impl_Near.l0]
        rw [if_pos (by omega), if_pos (by omega), if_pos (by omega), rdIn hi, wrapSucc (by omega)]
        simp only [if_pos (show acc.length < 17592186044416 by omega)]
      have no : ¬ (openOk w h c L[i] ∧ apart w h c n L[i] = 1) → Ev (fun k => impl_Near.l0 k n acc L (L.length : Int) ((i + 1 : Nat) : Int) w h c) (Go.Lib.compact (acc ++ (L[i] :: t).filter (beP w h c n))) := by
        intro q
        rw [List.filter_cons, if_neg (by unfold beP; rw [decide_eq_true_eq]; exact q)]
        exact ih acc (by omega)
      refine Ev.step st (Ev.bind (impl_IsOpen_ev w h c L[i]) ?_)
      by_cases q1 : openOk w h c L[i]
      · refine evPos (decide_eq_true q1) (Ev.bind (impl_Apart_ev w h c n L[i]) ?_)
        by_cases q2 : apart w h c n L[i] = 1
        · refine evPos q2 ?_
          rw [List.filter_cons, if_pos (by unfold beP; rw [decide_eq_true_eq]; exact ⟨q1, q2⟩)]
          have := ih (acc ++ [L[i]]) (by simp; omega)
          rwa [List.append_assoc, List.singleton_append] at this
        · exact evNeg q2 (no (fun x => q2 x.2))
      · exact evNeg (by rw [decide_eq_true_eq]; exact q1) (no (fun x => q1 x.1)))
    [] (by simp)
  rw [List.nil_append, near_compact hn] at key
  exact key

/-- The index of a number in a list of which the first stands at i; -1 if it is not there. -/
def placeS (n : Int) : Nat → List Int → Int
  | _, [] => -1
  | i, y :: t => if y = n then (i : Int) else placeS n (i + 1) t
theorem placeS_mem (n : Int) : ∀ (t : List Int) (i : Nat), (0 ≤ placeS n i t) ↔ n ∈ t
  | [], i => by simp [placeS]
  | y :: t, i => by
    simp only [placeS]
    by_cases c : y = n
    · simp [c]
    · have c' : ¬ n = y := fun e => c e.symm
      rw [if_neg c, placeS_mem n t (i + 1)]
      simp [c']
theorem placeOf_ev {l : List Int} (n : Int) (hl : l.length ≤ 100000000) : Ev (fun k => impl_placeOf.f k l n) (placeS n 0 l) := by
  have key := evScan l (fun k (_ : Unit) i => impl_placeOf.l0 k n l (l.length : Int) i) (fun _ i t => placeS n i t) (fun _ _ => True) (fun _ _ => by
      refine Ev.step (f := fun _ => some (-1)) (fun k => ?_) (Ev.now _)
      simp only [impl_placeOf.l0]
      rw [if_neg (by omega)]) (fun _ i t h ht _ ih => by
      have st : ∀ k, impl_placeOf.l0 (k + 1) n l (l.length : Int) (i : Int) = if l[i] = n then some (i : Int) else impl_placeOf.l0 k n l (l.length : Int) ((i + 1 : Nat) : Int) := by
        intro k
        simp only [impl_placeOf.l0]
        rw [if_pos (by omega), if_pos (by omega), if_pos (by omega), rdIn h, wrapSucc (by omega)]
      refine Ev.step st ?_
      simp only [placeS]
      by_cases c : l[i] = n
      · rw [if_pos c]
        exact evPos c (Ev.now _)
      · rw [if_neg c]
        exact evNeg c (ih () trivial))
    () trivial
  unfold impl_placeOf.f
  exact key
theorem has_ev {l : List Int} (n : Int) (hl : l.length ≤ 100000000) : Ev (fun k => impl_has.f k l n) (decide (n ∈ l)) := by
  unfold impl_has.f
  refine Ev.bind (placeOf_ev n hl) ?_
  simp only [ge_iff_le, placeS_mem]
  exact Ev.now _

theorem impl_IsWay_ev (w h : Int) (c : List Int) {l : List Int} (hl : l.length ≤ 100000000) : Ev (fun k => impl_IsWay.f k w h c l) (wayS w h c l) := by
  have key := evScan l (fun k (_ : Unit) i => impl_IsWay.l0 k l l (l.length : Int) i w h c) (fun _ i t => wayFrom w h c (prevW l i) t && decide (0 < l.length)) (fun _ i => ∀ p, prevW l i = some p → openOk w h c p) (fun _ _ => by
      refine Ev.step (f := fun _ => some (decide (0 < l.length))) (fun k => ?_) ?_
      · simp only [impl_IsWay.l0]
        rw [if_neg (by omega), Option.some.injEq, decide_eq_decide]
        omega
      · simp only [wayFrom, Bool.true_and]
        exact Ev.now _) (fun _ i t hi ht hp ih => by
      have st : ∀ k, impl_IsWay.l0 (k + 1) l l (l.length : Int) (i : Int) w h c = (impl_IsOpen.f k w h c l[i]).bind fun o => if o = true then (if (i : Int) > 0 then (if 0 ≤ (wrap64 ((i : Int) - 1)) then (if (wrap64 ((i : Int) - 1)) < (l.length : Int) then ((impl_Near.f k w h c (rd l (wrap64 ((i : Int) - 1)))).bind fun z => (impl_has.f k z l[i]).bind fun y => if y = true then impl_IsWay.l0 k l l (l.length : Int) ((i + 1 : Nat) : Int) w h c else some false) else none) else none) else impl_IsWay.l0 k l l (l.length : Int) ((i + 1 : Nat) : Int) w h c) else some false := by
        intro k
        simp only [impl_IsWay.l0]
        rw [if_pos (by omega), if_pos (by omega), if_pos (by omega), rdIn hi, wrapSucc (by omega)]
      refine Ev.step st (Ev.bind (impl_IsOpen_ev w h c l[i]) ?_)
      by_cases q : openOk w h c l[i]
      · have ih := ih () (by
          intro p e
          rw [prevW_succ hi] at e
          obtain rfl := Option.some.inj e
          exact q)
        rw [prevW_succ hi] at ih
        refine evPos (decide_eq_true q) ?_
        by_cases i0 : 0 < i
        · have e1 := prevW_pos hl hi i0
          have w1 : wrap64 ((i : Int) - 1) = ((i - 1 : Nat) : Int) := by rw [wrapId (n := (i : Int) - 1) (by omega) (by omega)]; omega
          refine evPos (show (i : Int) > 0 by omega) (evPos (by rw [w1]; omega) (evPos (by rw [w1]; omega) ?_))
          have ho := hp _ e1
          refine Ev.bind (impl_Near_ev ho.1) (Ev.bind (has_ev _ (Nat.le_trans (nearS_len w c _) (by omega))) ?_)
          rw [e1]
          simp only [wayFrom, decide_eq_true q, Bool.true_and]
          by_cases r : apart w h c (rd l (wrap64 ((i : Int) - 1))) l[i] = 1
          · rw [decide_eq_true r, Bool.true_and]
            exact evPos (decide_eq_true ((mem_nearS q.1.1 ho.1).2 ⟨q, r⟩)) ih
          · rw [decide_eq_false r, Bool.false_and, Bool.false_and]
            exact evNeg (by rw [decide_eq_true_eq]; exact fun x => r ((mem_nearS q.1.1 ho.1).1 x).2) (Ev.now _)
        · have e0 : prevW l i = none := by
            unfold prevW
            rw [if_pos (by omega)]
          refine evNeg (show ¬ (i : Int) > 0 by omega) ?_
          rw [e0]
          simp only [wayFrom, decide_eq_true q, Bool.true_and]
          exact ih
      · have e : wayFrom w h c (prevW l i) (l[i] :: t) = false := by
          cases prevW l i <;> simp [wayFrom, q]
        rw [e, Bool.false_and]
        exact evNeg (by rw [decide_eq_true_eq]; exact q) (Ev.now _))
    () (by
      intro p e
      unfold prevW at e
      rw [if_pos rfl] at e
      cases e)
  unfold impl_IsWay.f wayS
  exact key

theorem impl_IceOn_ev (w h : Int) (c : List Int) {l : List Int} (hl : l.length ≤ 100000000) : Ev (fun k => impl_IceOn.f k w h c l) (iceOn w h c l) := by
  have key := evScan l (fun k (s : Int) i => impl_IceOn.l0 k l s l (l.length : Int) i w h c) (fun s i t => s + if wayS w h c l = true then iceIn c t else 0) (fun s i => 0 ≤ s ∧ s ≤ (i : Int)) (fun s _ => by
      refine Ev.step (f := fun _ => some s) (fun k => ?_) ?_
      · simp only [impl_IceOn.l0]
        rw [if_neg (by omega)]
      · simp only [iceIn, ite_self, Int.add_zero]
        exact Ev.now _) (fun s i t hi ht hs ih => by
      have st : ∀ k, impl_IceOn.l0 (k + 1) l s l (l.length : Int) (i : Int) w h c = (impl_IsWay.f k w h c l).bind fun o => if o = true then (if 0 ≤ l[i] then (if l[i] < (c.length : Int) then (if rd c l[i] = 1 then impl_IceOn.l0 k l (s + 1) l (l.length : Int) ((i + 1 : Nat) : Int) w h c else impl_IceOn.l0 k l s l (l.length : Int) ((i + 1 : Nat) : Int) w h c) else none) else none) else impl_IceOn.l0 k l s l (l.length : Int) ((i + 1 : Nat) : Int) w h c := by
        intro k
        simp only [impl_IceOn.l0]
        rw [if_pos (by omega), if_pos (by omega), if_pos (by omega), rdIn hi, wrapSucc (by omega), wrapId (n := s + 1) (by omega) (by omega)]
      refine Ev.step st (Ev.bind (impl_IsWay_ev w h c hl) ?_)
      by_cases q : wayS w h c l = true
      · have ho := (wayS_open q l[i] (List.getElem_mem hi)).1.2
        refine evPos q (evPos ho.1 (evPos ho.2 ?_))
        rw [if_pos q]
        simp only [iceIn]
        by_cases r : rd c l[i] = 1
        · have := ih (s + 1) (by omega)
          rw [if_pos q] at this
          rw [if_pos r, ← Int.add_assoc]
          exact evPos r this
        · have := ih s (by omega)
          rw [if_pos q] at this
          rw [if_neg r, Int.zero_add]
          exact evNeg r this
      · have := ih s (by omega)
        rw [if_neg q] at this ⊢
        exact evNeg q this)
    0 (by omega)
  unfold impl_IceOn.f iceOn
  rw [Int.zero_add] at key
  exact key

theorem l1In_eq (a b c : Int) : spec_l1In.f a b c = some (decide (b ≤ a ∧ a ≤ c)) := by
  unfold spec_l1In.f
  by_cases h : b ≤ a
  · rw [if_pos h]
    simp [h]
  · rw [if_neg h]
    simp [h]

theorem spec_IsLand_ev (w h : Int) (c : List Int) : Ev (fun k => spec_IsLand.f k w h c) (decide (landOk w h c)) := by
  have no : ∀ (q : ¬ landOk w h c), Ev (fun k => spec_IsLand.j0 k true w h c) (decide (landOk w h c)) := by
    intro q
    rw [decide_eq_false q]
    refine Ev.step (f := fun _ => some false) (fun k => ?_) (Ev.now _)
    simp only [spec_IsLand.j0, if_true]
  unfold spec_IsLand.f
  simp only [l1In_eq, Option.bind_some]
  by_cases c0 : 1 ≤ w ∧ w ≤ 8
  · refine evPos (decide_eq_true c0) ?_
    by_cases c1 : 1 ≤ h ∧ h ≤ 8
    · have sb := sideB c0 c1
      refine evPos (decide_eq_true c1) ?_
      rw [wrapId (n := w * h) (by omega) (by omega)]
      by_cases c2 : (c.length : Int) = w * h
      · rw [show ((c.length : Int) != w * h) = false by simp [c2], show decide (landOk w h c) = inB 0 2 c by rw [Bool.eq_iff_iff, decide_eq_true_eq, inB_iff]; exact ⟨fun x => x.2.2, fun x => ⟨⟨c0, c1⟩, c2, x⟩⟩]
        refine Ev.step (f := fun k => spec_IsLand.l0 k 0 w h c) (fun k => ?_) ?_
        · simp only [spec_IsLand.j0, Bool.false_eq_true, if_false]
        exact evScan c (fun k (_ : Unit) i => spec_IsLand.l0 k i w h c) (fun _ _ t => inB 0 2 t) (fun _ _ => True) (fun _ _ => by
          rw [show inB 0 2 [] = true from rfl]
          refine Ev.step (f := fun _ => some true) (fun k => ?_) (Ev.now _)
          simp only [spec_IsLand.l0]
          rw [if_neg (by omega)]) (fun _ i t hi _ _ ih => by
          have st : ∀ k, spec_IsLand.l0 (k + 1) (i : Int) w h c = if decide (0 ≤ c[i] ∧ c[i] ≤ 2) = true then spec_IsLand.l0 k ((i + 1 : Nat) : Int) w h c else some false := by
            intro k
            simp only [spec_IsLand.l0, l1In_eq, Option.bind_some]
            rw [if_pos (by omega), if_pos (by omega), rdIn hi, wrapSucc (by omega)]
          refine Ev.step st ?_
          by_cases d : 0 ≤ c[i] ∧ c[i] ≤ 2
          · refine evPos (decide_eq_true d) ?_
            rw [inB_yes d]
            exact ih () trivial
          · refine evNeg (by rw [decide_eq_true_eq]; exact d) ?_
            rw [inB_no d]
            exact Ev.now _)
          () trivial
      · rw [show ((c.length : Int) != w * h) = true by simp [c2]]
        exact no (fun x => c2 x.2.1)
    · exact evNeg (by rw [decide_eq_true_eq]; exact c1) (no (fun x => c1 x.1.2))
  · exact evNeg (by rw [decide_eq_true_eq]; exact c0) (no (fun x => c0 x.1.1))
theorem spec_IsCell_ev (w h : Int) (c : List Int) (n : Int) : Ev (fun k => spec_IsCell.f k w h c n) (decide (cellOk w h c n)) := by
  unfold spec_IsCell.f
  refine Ev.bind (spec_IsLand_ev w h c) ?_
  by_cases q : landOk w h c
  · refine evPos (decide_eq_true q) ?_
    have := q.len
    simp only [l1In_eq, Option.bind_some]
    rw [wrapId (n := (c.length : Int) - 1) (by omega) (by omega), show decide (cellOk w h c n) = decide (0 ≤ n ∧ n ≤ (c.length : Int) - 1) by rw [decide_eq_decide]; exact ⟨fun x => ⟨x.2.1, by have := x.2.2; omega⟩, fun x => ⟨q, x.1, by omega⟩⟩]
    exact Ev.now _
  · rw [decide_eq_false (fun x : cellOk w h c n => q x.1)]
    exact evNeg (by rw [decide_eq_true_eq]; exact q) (Ev.now _)

theorem spec_IsOpen_ev (w h : Int) (c : List Int) (n : Int) : Ev (fun k => spec_IsOpen.f k w h c n) (decide (openOk w h c n)) := by
  unfold spec_IsOpen.f
  refine Ev.bind (spec_IsCell_ev w h c n) ?_
  by_cases q : cellOk w h c n
  · refine evPos (decide_eq_true q) (evPos q.2.1 (evPos q.2.2 ?_))
    rw [show decide (openOk w h c n) = (rd c n != 2) by rw [Bool.eq_iff_iff, decide_eq_true_eq, bne_iff_ne]; exact ⟨fun x => x.2, fun x => ⟨q, x⟩⟩]
    exact Ev.now _
  · rw [decide_eq_false (fun x : openOk w h c n => q x.1)]
    exact evNeg (by rw [decide_eq_true_eq]; exact q) (Ev.now _)

theorem spec_Apart_ev (w h : Int) (c : List Int) (a b : Int) : Ev (fun k => spec_Apart.f k w h c a b) (apart w h c a b) := by
  have no : ¬ (cellOk w h c a ∧ cellOk w h c b) → Ev (fun k => spec_Apart.j0 k a b true w h c) (apart w h c a b) := by
    intro q
    unfold apart
    rw [if_neg q]
    refine Ev.step (f := fun _ => some (-1)) (fun k => ?_) (Ev.now _)
    simp only [spec_Apart.j0, if_true]
  have mxs : ∀ x y : Int, spec_Max.f x y = some (if y > x then y else x) := by
    intro x y
    unfold spec_Max.f
    split <;> rfl
  unfold spec_Apart.f
  refine Ev.bind (spec_IsCell_ev w h c a) ?_
  by_cases qa : cellOk w h c a
  · refine evPos (decide_eq_true qa) (Ev.bind (spec_IsCell_ev w h c b) ?_)
    by_cases qb : cellOk w h c b
    · rw [decide_eq_true qb]
      unfold apart
      rw [if_pos ⟨qa, qb⟩]
      have hw := qa.1.1.1
      have hl := qa.1.len
      have ma := modB hw qa.2.1 (by have := qa.2.2; omega)
      have mb := modB hw qb.2.1 (by have := qb.2.2; omega)
      refine Ev.step (f := fun _ => some (absI (a % w - b % w) + absI (a / w - b / w))) (fun k => ?_) (Ev.now _)
      simp only [spec_Apart.j0, Bool.not_true, Bool.false_eq_true, if_false, mxs, Option.bind_some, ma.1, mb.1, ma.2.1, mb.2.1]
      rw [if_neg (show ¬ w = 0 by omega), wrapId (n := a / w) (by omega) (by omega), wrapId (n := b / w) (by omega) (by omega), wrapId (n := a % w - b % w) (by omega) (by omega), wrapId (n := a / w - b / w) (by omega) (by omega), wrapId (n := b % w - a % w) (by omega) (by omega), wrapId (n := b / w - a / w) (by omega) (by omega)]
      have e0 : (if b % w - a % w > a % w - b % w then b % w - a % w else a % w - b % w) = absI (a % w - b % w) := by unfold absI; repeat' split; all_goals omega
      have e1 : (if b / w - a / w > a / w - b / w then b / w - a / w else a / w - b / w) = absI (a / w - b / w) := by unfold absI; repeat' split; all_goals omega
      rw [e0, e1, wrapId]
      · unfold absI
        repeat' split
        all_goals omega
      · unfold absI
        repeat' split
        all_goals omega
    · rw [decide_eq_false qb]
      exact no (fun x => qb x.2)
  · exact evNeg (by rw [decide_eq_true_eq]; exact qa) (no (fun x => qa x.1))

theorem spec_IsWay_ev (w h : Int) (c : List Int) {l : List Int} (hl : l.length ≤ 100000000) : Ev (fun k => spec_IsWay.f k w h c l) (wayS w h c l) := by
  have key := evScan l (fun k (_ : Unit) i => spec_IsWay.l0 k l i w h c) (fun _ i t => wayFrom w h c (prevW l i) t && decide (0 < l.length)) (fun _ _ => True) (fun _ _ => by
      refine Ev.step (f := fun _ => some (decide (0 < l.length))) (fun k => ?_) ?_
      · simp only [spec_IsWay.l0]
        rw [if_neg (by omega), Option.some.injEq, decide_eq_decide]
        omega
      · simp only [wayFrom, Bool.true_and]
        exact Ev.now _) (fun _ i t hi ht _ ih => by
      have st : ∀ k, spec_IsWay.l0 (k + 1) l (i : Int) w h c = (spec_IsOpen.f k w h c l[i]).bind fun o => if o = true then (if (i : Int) > 0 then (if 0 ≤ (wrap64 ((i : Int) - 1)) then (if (wrap64 ((i : Int) - 1)) < (l.length : Int) then ((spec_Apart.f k w h c (rd l (wrap64 ((i : Int) - 1))) l[i]).bind fun z => if z = 1 then spec_IsWay.l0 k l ((i + 1 : Nat) : Int) w h c else some false) else none) else none) else spec_IsWay.l0 k l ((i + 1 : Nat) : Int) w h c) else some false := by
        intro k
        simp only [spec_IsWay.l0]
        rw [if_pos (by omega), if_pos (by omega), rdIn hi, wrapSucc (by omega)]
      have ih := ih () trivial
      rw [prevW_succ hi] at ih
      refine Ev.step st (Ev.bind (spec_IsOpen_ev w h c l[i]) ?_)
      by_cases q : openOk w h c l[i]
      · refine evPos (decide_eq_true q) ?_
        by_cases i0 : 0 < i
        · have e1 := prevW_pos hl hi i0
          have w1 : wrap64 ((i : Int) - 1) = ((i - 1 : Nat) : Int) := by rw [wrapId (n := (i : Int) - 1) (by omega) (by omega)]; omega
          refine evPos (show (i : Int) > 0 by omega) (evPos (by rw [w1]; omega) (evPos (by rw [w1]; omega) (Ev.bind (spec_Apart_ev w h c _ l[i]) ?_)))
          rw [e1]
          simp only [wayFrom, decide_eq_true q, Bool.true_and]
          by_cases r : apart w h c (rd l (wrap64 ((i : Int) - 1))) l[i] = 1
          · rw [decide_eq_true r, Bool.true_and]
            exact evPos r ih
          · rw [decide_eq_false r, Bool.false_and, Bool.false_and]
            exact evNeg r (Ev.now _)
        · have e0 : prevW l i = none := by
            unfold prevW
            rw [if_pos (by omega)]
          refine evNeg (show ¬ (i : Int) > 0 by omega) ?_
          rw [e0]
          simp only [wayFrom, decide_eq_true q, Bool.true_and]
          exact ih
      · have e : wayFrom w h c (prevW l i) (l[i] :: t) = false := by
          cases prevW l i <;> simp [wayFrom, q]
        rw [e, Bool.false_and]
        exact evNeg (by rw [decide_eq_true_eq]; exact q) (Ev.now _))
    () trivial
  unfold spec_IsWay.f wayS
  exact key

theorem spec_IceOn_ev (w h : Int) (c : List Int) {l : List Int} (hl : l.length ≤ 100000000) : Ev (fun k => spec_IceOn.f k w h c l) (iceOn w h c l) := by
  have stop : ∀ (s i : Int), Ev (fun k => spec_IceOn.j1 k l s i false w h c) s := by
    intro s i
    refine Ev.step (f := fun _ => some s) (fun k => ?_) (Ev.now _)
    simp only [spec_IceOn.j1, Bool.false_eq_true, if_false]
  have key := evScan l (fun k (s : Int) i => spec_IceOn.l0 k l s i w h c) (fun s i t => s + if wayS w h c l = true then iceIn c t else 0) (fun s i => 0 ≤ s ∧ s ≤ (i : Int)) (fun s _ => by
      refine Ev.step (f := fun k => spec_IceOn.j1 k l s (l.length : Int) false w h c) (fun k => ?_) ?_
      · simp only [spec_IceOn.l0]
        rw [if_neg (by omega)]
      · simp only [iceIn, ite_self, Int.add_zero]
        exact stop _ _) (fun s i t hi ht hs ih => by
      have st : ∀ k, spec_IceOn.l0 (k + 1) l s (i : Int) w h c = (spec_IsWay.f k w h c l).bind fun o => spec_IceOn.j1 k l s (i : Int) o w h c := by
        intro k
        simp only [spec_IceOn.l0]
        rw [if_pos (by omega)]
      refine Ev.step st (Ev.bind (spec_IsWay_ev w h c hl) ?_)
      by_cases q : wayS w h c l = true
      · have ho := (wayS_open q l[i] (List.getElem_mem hi)).1.2
        rw [q]
        have s1 : ∀ k, spec_IceOn.j1 (k + 1) l s (i : Int) true w h c = if rd c l[i] = 1 then spec_IceOn.l0 k l (s + 1) ((i + 1 : Nat) : Int) w h c else spec_IceOn.l0 k l s ((i + 1 : Nat) : Int) w h c := by
          intro k
          simp only [spec_IceOn.j1, if_true]
          rw [if_pos (by omega), if_pos (by omega), rdIn hi, if_pos ho.1, if_pos ho.2, wrapSucc (by omega), wrapId (n := s + 1) (by omega) (by omega)]
        refine Ev.step s1 ?_
        simp only [if_true, iceIn]
        by_cases r : rd c l[i] = 1
        · have := ih (s + 1) (by omega)
          rw [if_pos q] at this
          rw [if_pos r, ← Int.add_assoc]
          exact evPos r this
        · have := ih s (by omega)
          rw [if_pos q] at this
          rw [if_neg r, Int.zero_add]
          exact evNeg r this
      · rw [Bool.not_eq_true] at q
        rw [q]
        simp only [Bool.false_eq_true, if_false, Int.add_zero]
        exact stop _ _)
    0 (by omega)
  unfold spec_IceOn.f iceOn
  rw [Int.zero_add] at key
  exact key

def FnExactIceOn.Claim : Prop := ∀ (a0_0 : Int) (a0_1 : Int) (l0_2 : List (Int)) (l1 : List (Int)), (Lit.int .i64 a0_0).wf = true → (Lit.int .i64 a0_1).wf = true → l0_2.length ≤ maxLen → (∀ x ∈ l0_2, (Lit.int .i64 x).wf = true) → l1.length ≤ maxLen → (∀ x ∈ l1, (Lit.int .i64 x).wf = true) → ∃ k, laws_FnExactIceOn.f k a0_0 a0_1 l0_2 l1 = some true
theorem FnExactIceOn : FnExactIceOn.Claim := by
  intro w h c l _ _ hc _ hl _
  apply Ev.rounds
  unfold laws_FnExactIceOn.f
  by_cases ql : (l.length : Int) > 1048576
  · exact evPos ql (Ev.now _)
  refine evNeg ql ?_
  have hl' : l.length ≤ 1048576 := by omega
  rw [szLand_ok hc (by omega) (by omega)]
  simp only [Option.bind_some]
  by_cases qc : (c.length : Int) ≤ 1048576
  · rw [if_pos qc]
    refine evNeg (by omega) ?_
    have hc' : c.length ≤ 1048576 := by omega
    refine Ev.bind (toLand_ev hc') (Ev.bind (toIntS_ev hl') (Ev.bind (spec_IceOn_ev w h c (by omega)) (Ev.bind (toLand_ev hc') (Ev.bind (toIntS_ev hl') (Ev.bind (impl_IceOn_ev w h c (by omega)) (evPos rfl ?_))))))
    exact Ev.bind (toLand_ev hc') (Ev.bind (eqLand_same hc') (evPos rfl (Ev.bind (toIntS_ev hl') (Ev.bind (eqIntS_same hl') (evPos rfl (Ev.now _))))))
  · rw [if_neg qc]
    exact evPos (by omega) (Ev.now _)
end Go.Proofs.Ytijfpcaahcnbbab.Pure
