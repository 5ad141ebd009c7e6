/- For every land and party, the program's IsParty and the reference's give the same answer: the law's Go function answers true. No condition beyond the kinds of the numbers. -/
import Derived.Test.YtijfpcaahcnbbaaPFnExactIsPartyx8
import Derived.Test.YtijfpcaahcnbbaaAid
namespace Go.Proofs.Ytijfpcaahcnbbaa.Pure
open Go.RowKit Go.Proofs.Ytijfpcaahcnbbaa.PFnExactIsParty Go.Proofs.Ytijfpcaahcnbbaa.Aid Go.Proofs.YtijfpcaahcnbbaaW.PrintWords Go.Proofs.YtijfpcaahcnbbaaW.PrintLast Go.Proofs.YtijfpcaahcnbbaaW.PrintMore
set_option linter.unusedVariables false
set_option linter.unusedSimpArgs false
theorem toIntS_ev {l : List Int} (hl : l.length ≤ 1048576) : Ev (fun k => laws_toIntS.f k l) l := by
  have key := evScan l (fun k (acc : List Int) i => laws_toIntS.l0 k l acc i) (fun _ _ _ => l) (fun acc i => acc.length = l.length ∧ acc.take i = l.take i) (fun acc ⟨h0, h1⟩ => by
      refine Ev.step (f := fun _ => some acc) (fun k => ?_) ?_
      · simp only [laws_toIntS.l0]
        rw [if_neg (by omega)]
      · rw [take_whole h0 h1]
        exact Ev.now _) (fun acc i t h ht ⟨h0, h1⟩ ih => by
      refine Ev.step (fun k => ?_) (ih (acc.set i l[i]) ⟨by simpa using h0, take_set_succ h h0 h1⟩)
      simp only [laws_toIntS.l0]
      rw [if_pos (by omega), if_pos (by omega), if_pos (by omega), rdIn h, wrapSucc (by omega), toNatCast])
    (List.replicate l.length 0) ⟨by simp, by simp⟩
  refine Ev.congr (fun k => ?_) key
  simp only [laws_toIntS.f]
  rw [if_pos (by omega), if_pos (by omega), toNatCast]

theorem eqIntS_ev {a b : List Int} (ha : a.length ≤ 1048576) : Ev (fun k => laws_eqIntS.f k a b) (decide (a = b)) := by
  by_cases e : a.length = b.length
  · have key := evScan a (fun k (_ : Unit) i => laws_eqIntS.l0 k a b i) (fun _ i t => decide (t = b.drop i)) (fun _ _ => True) (fun _ _ => by
        refine Ev.step (f := fun _ => some true) (fun k => ?_) ?_
        · simp only [laws_eqIntS.l0]
          rw [if_neg (by omega)]
        · rw [e, List.drop_length]
          exact Ev.now _) (fun _ i t h ht _ ih => by
        have hb : i < b.length := by omega
        have st : ∀ k, laws_eqIntS.l0 (k + 1) a b (i : Int) = if a[i] = b[i] then laws_eqIntS.l0 k a b ((i + 1 : Nat) : Int) else some false := by
          intro k
          simp only [laws_eqIntS.l0]
          rw [if_pos (by omega), if_pos (by omega), if_pos (by omega), rdIn h, rdIn hb, wrapSucc (by omega)]
        refine Ev.step st ?_
        rw [List.drop_eq_getElem_cons hb]
        by_cases c : a[i] = b[i]
        · refine evPos c ?_
          rw [show decide (a[i] :: t = b[i] :: b.drop (i + 1)) = decide (t = b.drop (i + 1)) by rw [decide_eq_decide, List.cons.injEq, and_iff_right c]]
          exact ih () trivial
        · refine evNeg c ?_
          rw [show decide (a[i] :: t = b[i] :: b.drop (i + 1)) = false by rw [decide_eq_false_iff_not, List.cons.injEq]; exact fun e => c e.1]
          exact Ev.now _)
      () trivial
    refine Ev.congr (fun k => ?_) key
    simp only [laws_eqIntS.f]
    rw [if_pos (by omega)]
  · have ne : ¬ a = b := fun h => e (by rw [h])
    refine Ev.congr (f := fun _ => some (decide (a = b))) (fun k => ?_) (Ev.now _)
    simp only [laws_eqIntS.f]
    rw [if_neg (by omega), decide_eq_false ne]
theorem eqIntS_same {a : List Int} (ha : a.length ≤ 1048576) : Ev (fun k => laws_eqIntS.f k a a) true := by
  have := eqIntS_ev (a := a) (b := a) ha
  rwa [decide_eq_true rfl] at this

theorem szIntS_ok {l : List Int} {q : Int} (hl : l.length ≤ maxLen) (h0 : 0 ≤ q) (h1 : q ≤ 1048576) : laws_szIntS.f l q = some (if (l.length : Int) ≤ q then q - (l.length : Int) else -1) := by
  unfold laws_szIntS.f
  unfold maxLen at hl
  rw [wrapId (n := q - (l.length : Int)) (by omega) (by omega)]
  by_cases c : (l.length : Int) ≤ q
  · rw [if_neg (by omega), if_pos c]
  · rw [if_pos (by omega), if_neg c]
theorem szLand_ok {w h : Int} {l : List Int} {q : Int} (hl : l.length ≤ maxLen) (h0 : 0 ≤ q) (h1 : q ≤ 1048576) : laws_szLand.f w h l q = some (if (l.length : Int) ≤ q then q - (l.length : Int) else -1) := by
  unfold laws_szLand.f
  rw [szIntS_ok hl h0 h1, Option.bind_some]
  by_cases c : (l.length : Int) ≤ q
  · rw [if_pos c, if_neg (by omega)]
  · rw [if_neg c, if_pos (by omega)]
theorem toLand_ev {w h : Int} {l : List Int} (hl : l.length ≤ 1048576) : Ev (fun k => laws_toLand.f k w h l) (w, h, l) := by
  unfold laws_toLand.f
  exact Ev.bind (toIntS_ev hl) (Ev.now _)
theorem eqLand_same {w h : Int} {l : List Int} (hl : l.length ≤ 1048576) : Ev (fun k => laws_eqLand.f k w h l w h l) true := by
  unfold laws_eqLand.f
  exact evPos rfl (evPos rfl (Ev.bind (eqIntS_same hl) (evPos rfl (Ev.now _))))

theorem szMemberS_ok {l : List S84} {q : Int} (hl : l.length ≤ maxLen) (h0 : 0 ≤ q) (h1 : q ≤ 1048576) : laws_szMemberS.f l q = some (if (l.length : Int) ≤ q then q - (l.length : Int) else -1) := by
  unfold laws_szMemberS.f
  unfold maxLen at hl
  rw [wrapId (n := q - (l.length : Int)) (by omega) (by omega)]
  by_cases c : (l.length : Int) ≤ q
  · rw [if_neg (by omega), if_pos c]
  · rw [if_pos (by omega), if_neg c]

theorem rdM {xs : List S82} {i : Nat} (h : i < xs.length) : rd_T82 xs (i : Int) = xs[i] := by
  unfold rd_T82
  rw [Int.toNat_natCast, getD_lt h]

def mem (x : S84) : S82 := ⟨x.f0, x.f1, x.f2, x.f3⟩
theorem rdLM {xs : List S84} {i : Nat} (h : i < xs.length) : rd_T84 xs (i : Int) = xs[i] := by
  unfold rd_T84
  rw [Int.toNat_natCast, getD_lt h]
theorem toMemberS_ev {l : List S84} (hl : l.length ≤ 1048576) : Ev (fun k => laws_toMemberS.f k l) (l.map mem) := by
  have key := evScan l (fun k (acc : List S82) i => laws_toMemberS.l0 k l acc i) (fun _ _ _ => l.map mem) (fun acc i => acc.length = (l.map mem).length ∧ acc.take i = (l.map mem).take i) (fun acc ⟨h0, h1⟩ => by
      refine Ev.step (f := fun _ => some acc) (fun k => ?_) ?_
      · simp only [laws_toMemberS.l0]
        rw [if_neg (by omega)]
      · rw [take_whole h0 (by rw [List.length_map]; exact h1)]
        exact Ev.now _) (fun acc i t h ht ⟨h0, h1⟩ ih => by
      have hm : i < (l.map mem).length := by rw [List.length_map]; exact h
      have hs := take_set_succ hm h0 h1
      rw [List.length_map] at h0
      refine Ev.step (fun k => ?_) (ih (acc.set i (l.map mem)[i]) ⟨by simpa using h0, hs⟩)
      simp only [laws_toMemberS.l0, laws_toMember.f, Option.bind_some]
      rw [if_pos (by omega), if_pos (by omega), if_pos (by omega), rdLM h, wrapSucc (by omega), toNatCast, List.getElem_map]
      rfl)
    (List.replicate l.length z82) ⟨by simp, by simp⟩
  refine Ev.congr (fun k => ?_) key
  simp only [laws_toMemberS.f]
  rw [if_pos (by omega), if_pos (by omega), toNatCast]

theorem eqMemberS_same {a : List S82} (ha : a.length ≤ 1048576) : Ev (fun k => laws_eqMemberS.f k a a) true := by
  have key := evScan a (fun k (_ : Unit) i => laws_eqMemberS.l0 k a a i) (fun _ _ _ => true) (fun _ _ => True) (fun _ _ => by
      refine Ev.step (f := fun _ => some true) (fun k => ?_) (Ev.now _)
      simp only [laws_eqMemberS.l0]
      rw [if_neg (by omega)]) (fun _ i t h _ _ ih => by
      refine Ev.step (fun k => ?_) (ih () trivial)
      simp only [laws_eqMemberS.l0, laws_eqMember.f, if_true, bne_self_eq_false, Bool.false_eq_true, if_false, Option.bind_some]
      rw [if_pos (by omega), if_pos (by omega), if_pos (by omega), wrapSucc (by omega)])
    () trivial
  refine Ev.congr (fun k => ?_) key
  simp only [laws_eqMemberS.f, if_true]

theorem rdOfIn {xs : List Bool} {i : Nat} (h : i < xs.length) : rdOf false xs (i : Int) = xs[i] := by
  unfold rdOf
  rw [Int.toNat_natCast, getD_lt h]
theorem toBoolS_ev {l : List Bool} (hl : l.length ≤ 1048576) : Ev (fun k => laws_toBoolS.f k l) l := by
  have key := evScan l (fun k (acc : List Bool) i => laws_toBoolS.l0 k l acc i) (fun _ _ _ => l) (fun acc i => acc.length = l.length ∧ acc.take i = l.take i) (fun acc ⟨h0, h1⟩ => by
      refine Ev.step (f := fun _ => some acc) (fun k => ?_) ?_
      · simp only [laws_toBoolS.l0]
        rw [if_neg (by omega)]
      · rw [take_whole h0 h1]
        exact Ev.now _) (fun acc i t h ht ⟨h0, h1⟩ ih => by
      refine Ev.step (fun k => ?_) (ih (acc.set i l[i]) ⟨by simpa using h0, take_set_succ h h0 h1⟩)
      simp only [laws_toBoolS.l0]
      rw [if_pos (by omega), if_pos (by omega), if_pos (by omega), rdOfIn h, wrapSucc (by omega), toNatCast])
    (List.replicate l.length false) ⟨by simp, by simp⟩
  refine Ev.congr (fun k => ?_) key
  simp only [laws_toBoolS.f]
  rw [if_pos (by omega), if_pos (by omega), toNatCast]
theorem eqBoolS_same {a : List Bool} (ha : a.length ≤ 1048576) : Ev (fun k => laws_eqBoolS.f k a a) true := by
  have key := evScan a (fun k (_ : Unit) i => laws_eqBoolS.l0 k a a i) (fun _ _ _ => true) (fun _ _ => True) (fun _ _ => by
      refine Ev.step (f := fun _ => some true) (fun k => ?_) (Ev.now _)
      simp only [laws_eqBoolS.l0]
      rw [if_neg (by omega)]) (fun _ i t h _ _ ih => by
      refine Ev.step (fun k => ?_) (ih () trivial)
      simp only [laws_eqBoolS.l0, bne_self_eq_false, Bool.false_eq_true, if_false]
      rw [if_pos (by omega), if_pos (by omega), if_pos (by omega), wrapSucc (by omega)])
    () trivial
  refine Ev.congr (fun k => ?_) key
  simp only [laws_eqBoolS.f, if_true]
theorem szBoolS_ok {l : List Bool} {q : Int} (hl : l.length ≤ maxLen) (h0 : 0 ≤ q) (h1 : q ≤ 1048576) : laws_szBoolS.f l q = some (if (l.length : Int) ≤ q then q - (l.length : Int) else -1) := by
  unfold laws_szBoolS.f
  unfold maxLen at hl
  rw [wrapId (n := q - (l.length : Int)) (by omega) (by omega)]
  by_cases c : (l.length : Int) ≤ q
  · rw [if_neg (by omega), if_pos c]
  · rw [if_pos (by omega), if_neg c]
theorem szParty_ok {a f : Int} {l : List S84} {p : List Bool} {q : Int} (hl : l.length ≤ maxLen) (hp : p.length ≤ maxLen) (h0 : 0 ≤ q) (h1 : q ≤ 1048576) :
    laws_szParty.f a f l p q = some (if (l.length : Int) + (p.length : Int) ≤ q then q - (l.length : Int) - (p.length : Int) else -1) := by
  unfold laws_szParty.f
  rw [szMemberS_ok hl h0 h1, Option.bind_some]
  by_cases c : (l.length : Int) ≤ q
  · rw [if_pos c, if_neg (by omega), szBoolS_ok hp (by omega) (by omega), Option.bind_some]
    by_cases d : (p.length : Int) ≤ q - (l.length : Int)
    · rw [if_pos d, if_neg (by omega), if_pos (by omega)]
    · rw [if_neg d, if_pos (by omega), if_neg (by omega)]
  · rw [if_neg c, if_pos (by omega), if_neg (by omega)]
theorem toParty_ev {a f : Int} {l : List S84} {p : List Bool} (hl : l.length ≤ 1048576) (hp : p.length ≤ 1048576) : Ev (fun k => laws_toParty.f k a f l p) (a, f, l.map mem, p) := by
  unfold laws_toParty.f
  exact Ev.bind (toMemberS_ev hl) (Ev.bind (toBoolS_ev hp) (Ev.now _))
theorem eqParty_same {a f : Int} {l : List S82} {p : List Bool} (hl : l.length ≤ 1048576) (hp : p.length ≤ 1048576) : Ev (fun k => laws_eqParty.f k a f l p a f l p) true := by
  unfold laws_eqParty.f
  exact evPos rfl (evPos rfl (Ev.bind (eqMemberS_same hl) (evPos rfl (Ev.bind (eqBoolS_same hp) (evPos rfl (Ev.now _))))))

theorem inRange_eq (a b c : Int) : impl_InRange.f a b c = some (decide (b ≤ a ∧ a ≤ c)) := by
  unfold impl_InRange.f
  by_cases h : b ≤ a
  · rw [if_pos h]
    simp [h]
  · rw [if_neg h]
    simp [h]

def inB (lo hi : Int) (l : List Int) : Bool := l.all (fun x => decide (lo ≤ x ∧ x ≤ hi))
theorem inB_iff {lo hi : Int} {l : List Int} : inB lo hi l = true ↔ ∀ x ∈ l, lo ≤ x ∧ x ≤ hi := by
  unfold inB
  simp only [List.all_eq_true, decide_eq_true_eq]
theorem inB_yes {lo hi x : Int} {t : List Int} (d : lo ≤ x ∧ x ≤ hi) : inB lo hi (x :: t) = inB lo hi t := by
  simp only [inB, List.all_cons, d, and_self, decide_true, Bool.true_and]
theorem inB_no {lo hi x : Int} {t : List Int} (d : ¬ (lo ≤ x ∧ x ≤ hi)) : inB lo hi (x :: t) = false := by
  simp only [inB, List.all_cons, d, decide_false, Bool.false_and]
/-- A land: its sides, its cells. -/
def landOk (w h : Int) (c : List Int) : Prop := ((1 ≤ w ∧ w ≤ 8) ∧ (1 ≤ h ∧ h ≤ 8)) ∧ (c.length : Int) = w * h ∧ ∀ x ∈ c, 0 ≤ x ∧ x ≤ 2
instance (w h : Int) (c : List Int) : Decidable (landOk w h c) := inferInstanceAs (Decidable (_ ∧ _))
def cellOk (w h : Int) (c : List Int) (n : Int) : Prop := landOk w h c ∧ 0 ≤ n ∧ n < (c.length : Int)
instance (w h : Int) (c : List Int) (n : Int) : Decidable (cellOk w h c n) := inferInstanceAs (Decidable (_ ∧ _))
def openOk (w h : Int) (c : List Int) (n : Int) : Prop := cellOk w h c n ∧ rd c n ≠ 2
instance (w h : Int) (c : List Int) (n : Int) : Decidable (openOk w h c n) := inferInstanceAs (Decidable (_ ∧ _))
theorem sideB {w h : Int} (hw : 1 ≤ w ∧ w ≤ 8) (hh : 1 ≤ h ∧ h ≤ 8) : 1 ≤ w * h ∧ w * h ≤ 64 := by
  have h0 : 1 * 1 ≤ w * h := Int.mul_le_mul hw.1 hh.1 (by omega) (by omega)
  have h1 : w * h ≤ 8 * 8 := Int.mul_le_mul hw.2 hh.2 (by omega) (by omega)
  omega
theorem landOk.len {w h : Int} {c : List Int} (x : landOk w h c) : 1 ≤ c.length ∧ c.length ≤ 64 := by
  have := sideB x.1.1 x.1.2
  have := x.2.1
  omega

theorem allIn_ev {l : List Int} (lo hi : Int) (hl : l.length ≤ 100000000) : Ev (fun k => impl_allIn.f k l lo hi) (inB lo hi l) := by
  have key := evScan l (fun k (_ : Unit) i => impl_allIn.l0 k lo hi l (l.length : Int) i) (fun _ _ t => inB lo hi t) (fun _ _ => True) (fun _ _ => by
      rw [show inB lo hi [] = true from rfl]
      refine Ev.step (f := fun _ => some true) (fun k => ?_) (Ev.now _)
      simp only [impl_allIn.l0]
      rw [if_neg (by omega)]) (fun _ i t h _ _ ih => by
      have st : ∀ k, impl_allIn.l0 (k + 1) lo hi l (l.length : Int) (i : Int) = if decide (lo ≤ l[i] ∧ l[i] ≤ hi) = true then impl_allIn.l0 k lo hi l (l.length : Int) ((i + 1 : Nat) : Int) else some false := by
        intro k
        simp only [impl_allIn.l0, inRange_eq, Option.bind_some]
        rw [if_pos (by omega), if_pos (by omega), if_pos (by omega), rdIn h, wrapSucc (by omega)]
      refine Ev.step st ?_
      by_cases d : lo ≤ l[i] ∧ l[i] ≤ hi
      · refine evPos (decide_eq_true d) ?_
        rw [inB_yes d]
        exact ih () trivial
      · refine evNeg (by rw [decide_eq_true_eq]; exact d) ?_
        rw [inB_no d]
        exact Ev.now _)
    () trivial
  unfold impl_allIn.f
  exact key
theorem impl_IsLand_ev (w h : Int) (c : List Int) : Ev (fun k => impl_IsLand.f k w h c) (decide (landOk w h c)) := by
  unfold impl_IsLand.f
  simp only [inRange_eq, Option.bind_some]
  by_cases c0 : 1 ≤ w ∧ w ≤ 8
  · refine evPos (decide_eq_true c0) ?_
    by_cases c1 : 1 ≤ h ∧ h ≤ 8
    · have sb := sideB c0 c1
      refine evPos (decide_eq_true c1) ?_
      rw [wrapId (n := w * h) (by omega) (by omega)]
      by_cases c2 : (c.length : Int) = w * h
      · refine evPos c2 (Ev.bind (allIn_ev 0 2 (by omega)) ?_)
        rw [show decide (landOk w h c) = inB 0 2 c by rw [Bool.eq_iff_iff, decide_eq_true_eq, inB_iff]; exact ⟨fun x => x.2.2, fun x => ⟨⟨c0, c1⟩, c2, x⟩⟩]
        exact Ev.now _
      · rw [decide_eq_false (fun x : landOk w h c => c2 x.2.1)]
        exact evNeg c2 (Ev.now _)
    · rw [decide_eq_false (fun x : landOk w h c => c1 x.1.2)]
      exact evNeg (by rw [decide_eq_true_eq]; exact c1) (Ev.now _)
  · rw [decide_eq_false (fun x : landOk w h c => c0 x.1.1)]
    exact evNeg (by rw [decide_eq_true_eq]; exact c0) (Ev.now _)
theorem impl_IsCell_ev (w h : Int) (c : List Int) (n : Int) : Ev (fun k => impl_IsCell.f k w h c n) (decide (cellOk w h c n)) := by
  unfold impl_IsCell.f
  refine Ev.bind (impl_IsLand_ev w h c) ?_
  by_cases q : landOk w h c
  · refine evPos (decide_eq_true q) ?_
    have := q.len
    simp only [inRange_eq, Option.bind_some]
    rw [wrapId (n := (c.length : Int) - 1) (by omega) (by omega), show decide (cellOk w h c n) = decide (0 ≤ n ∧ n ≤ (c.length : Int) - 1) by rw [decide_eq_decide]; exact ⟨fun x => ⟨x.2.1, by have := x.2.2; omega⟩, fun x => ⟨q, x.1, by omega⟩⟩]
    exact Ev.now _
  · rw [decide_eq_false (fun x : cellOk w h c n => q x.1)]
    exact evNeg (by rw [decide_eq_true_eq]; exact q) (Ev.now _)

theorem impl_IsOpen_ev (w h : Int) (c : List Int) (n : Int) : Ev (fun k => impl_IsOpen.f k w h c n) (decide (openOk w h c n)) := by
  unfold impl_IsOpen.f
  refine Ev.bind (impl_IsCell_ev w h c n) ?_
  by_cases q : cellOk w h c n
  · refine evPos (decide_eq_true q) (evPos q.2.1 (evPos q.2.2 ?_))
    rw [show decide (openOk w h c n) = (rd c n != 2) by rw [Bool.eq_iff_iff, decide_eq_true_eq, bne_iff_ne]; exact ⟨fun x => x.2, fun x => ⟨q, x⟩⟩]
    exact Ev.now _
  · rw [decide_eq_false (fun x : openOk w h c n => q x.1)]
    exact evNeg (by rw [decide_eq_true_eq]; exact q) (Ev.now _)

theorem l1In_eq (a b c : Int) : spec_l1In.f a b c = some (decide (b ≤ a ∧ a ≤ c)) := by
  unfold spec_l1In.f
  by_cases h : b ≤ a
  · rw [if_pos h]
    simp [h]
  · rw [if_neg h]
    simp [h]

theorem spec_IsLand_ev (w h : Int) (c : List Int) : Ev (fun k => spec_IsLand.f k w h c) (decide (landOk w h c)) := by
  have no : ∀ (q : ¬ landOk w h c), Ev (fun k => spec_IsLand.j0 k true w h c) (decide (landOk w h c)) := by
    intro q
    rw [decide_eq_false q]
    refine Ev.step (f := fun _ => some false) (fun k => ?_) (Ev.now _)
    simp only [spec_IsLand.j0, if_true]
  unfold spec_IsLand.f
  simp only [l1In_eq, Option.bind_some]
  by_cases c0 : 1 ≤ w ∧ w ≤ 8
  · refine evPos (decide_eq_true c0) ?_
    by_cases c1 : 1 ≤ h ∧ h ≤ 8
    · have sb := sideB c0 c1
      refine evPos (decide_eq_true c1) ?_
      rw [wrapId (n := w * h) (by omega) (by omega)]
      by_cases c2 : (c.length : Int) = w * h
      · rw [show ((c.length : Int) != w * h) = false by simp [c2], show decide (landOk w h c) = inB 0 2 c by rw [Bool.eq_iff_iff, decide_eq_true_eq, inB_iff]; exact ⟨fun x => x.2.2, fun x => ⟨⟨c0, c1⟩, c2, x⟩⟩]
        refine Ev.step (f := fun k => spec_IsLand.l0 k 0 w h c) (fun k => ?_) ?_
        · simp only [spec_IsLand.j0, Bool.false_eq_true, if_false]
        exact evScan c (fun k (_ : Unit) i => spec_IsLand.l0 k i w h c) (fun _ _ t => inB 0 2 t) (fun _ _ => True) (fun _ _ => by
          rw [show inB 0 2 [] = true from rfl]
          refine Ev.step (f := fun _ => some true) (fun k => ?_) (Ev.now _)
          simp only [spec_IsLand.l0]
          rw [if_neg (by omega)]) (fun _ i t hi _ _ ih => by
          have st : ∀ k, spec_IsLand.l0 (k + 1) (i : Int) w h c = if decide (0 ≤ c[i] ∧ c[i] ≤ 2) = true then spec_IsLand.l0 k ((i + 1 : Nat) : Int) w h c else some false := by
            intro k
            simp only [spec_IsLand.l0, l1In_eq, Option.bind_some]
            rw [if_pos (by omega), if_pos (by omega), rdIn hi, wrapSucc (by omega)]
          refine Ev.step st ?_
          by_cases d : 0 ≤ c[i] ∧ c[i] ≤ 2
          · refine evPos (decide_eq_true d) ?_
            rw [inB_yes d]
            exact ih () trivial
          · refine evNeg (by rw [decide_eq_true_eq]; exact d) ?_
            rw [inB_no d]
            exact Ev.now _)
          () trivial
      · rw [show ((c.length : Int) != w * h) = true by simp [c2]]
        exact no (fun x => c2 x.2.1)
    · exact evNeg (by rw [decide_eq_true_eq]; exact c1) (no (fun x => c1 x.1.2))
  · exact evNeg (by rw [decide_eq_true_eq]; exact c0) (no (fun x => c0 x.1.1))
theorem spec_IsCell_ev (w h : Int) (c : List Int) (n : Int) : Ev (fun k => spec_IsCell.f k w h c n) (decide (cellOk w h c n)) := by
  unfold spec_IsCell.f
  refine Ev.bind (spec_IsLand_ev w h c) ?_
  by_cases q : landOk w h c
  · refine evPos (decide_eq_true q) ?_
    have := q.len
    simp only [l1In_eq, Option.bind_some]
    rw [wrapId (n := (c.length : Int) - 1) (by omega) (by omega), show decide (cellOk w h c n) = decide (0 ≤ n ∧ n ≤ (c.length : Int) - 1) by rw [decide_eq_decide]; exact ⟨fun x => ⟨x.2.1, by have := x.2.2; omega⟩, fun x => ⟨q, x.1, by omega⟩⟩]
    exact Ev.now _
  · rw [decide_eq_false (fun x : cellOk w h c n => q x.1)]
    exact evNeg (by rw [decide_eq_true_eq]; exact q) (Ev.now _)

theorem spec_IsOpen_ev (w h : Int) (c : List Int) (n : Int) : Ev (fun k => spec_IsOpen.f k w h c n) (decide (openOk w h c n)) := by
  unfold spec_IsOpen.f
  refine Ev.bind (spec_IsCell_ev w h c n) ?_
  by_cases q : cellOk w h c n
  · refine evPos (decide_eq_true q) (evPos q.2.1 (evPos q.2.2 ?_))
    rw [show decide (openOk w h c n) = (rd c n != 2) by rw [Bool.eq_iff_iff, decide_eq_true_eq, bne_iff_ne]; exact ⟨fun x => x.2, fun x => ⟨q, x⟩⟩]
    exact Ev.now _
  · rw [decide_eq_false (fun x : openOk w h c n => q x.1)]
    exact evNeg (by rw [decide_eq_true_eq]; exact q) (Ev.now _)

def okM (m : S82) : Bool := decide ((1 ≤ m.f0 ∧ m.f0 ≤ 99) ∧ (0 ≤ m.f1 ∧ m.f1 ≤ 100) ∧ (1 ≤ m.f2 ∧ m.f2 ≤ 10))
/-- Members of a crew, behind one whose number is p. -/
def crewFrom : Int → List S82 → Bool
  | _, [] => true
  | p, m :: t => okM m && (decide (p < m.f0) && crewFrom m.f0 t)
def areCrew (l : List S82) : Bool := crewFrom 0 l && decide (1 ≤ l.length ∧ l.length ≤ 8)
def prevId (l : List S82) (i : Nat) : Int := if i = 0 then 0 else (l.getD (i - 1) z82).f0
theorem prevId_succ {l : List S82} {i : Nat} (h : i < l.length) : prevId l (i + 1) = l[i].f0 := by
  unfold prevId
  rw [if_neg (by omega), Nat.add_sub_cancel, getD_lt h]
theorem prevId_pos {l : List S82} {i : Nat} (hl : l.length ≤ 100000000) (h : i ≤ l.length) (h0 : 0 < i) : prevId l i = (rd_T82 l (wrap64 ((i : Int) - 1))).f0 := by
  rw [wrapId (n := (i : Int) - 1) (by omega) (by omega), show ((i : Int) - 1) = ((i - 1 : Nat) : Int) by omega, rdM (by omega)]
  unfold prevId
  rw [if_neg (by omega), getD_lt (by omega)]
theorem crewFrom_ok : ∀ {l : List S82} {p : Int}, crewFrom p l = true → ∀ m ∈ l, okM m = true
  | [], _, _, m, h => by cases h
  | x :: t, p, e, m, h => by
    simp only [crewFrom, Bool.and_eq_true] at e
    rcases List.mem_cons.1 h with rfl | h
    · exact e.1
    · exact crewFrom_ok e.2.2 m h
theorem areCrew_len {l : List S82} (e : areCrew l = true) : 1 ≤ l.length ∧ l.length ≤ 8 := by
  unfold areCrew at e
  simp only [Bool.and_eq_true, decide_eq_true_eq] at e
  exact e.2
theorem areCrew_ok {l : List S82} (e : areCrew l = true) : ∀ m ∈ l, (1 ≤ m.f0 ∧ m.f0 ≤ 99) ∧ (0 ≤ m.f1 ∧ m.f1 ≤ 100) ∧ (1 ≤ m.f2 ∧ m.f2 ≤ 10) := by
  intro m hm
  unfold areCrew at e
  simp only [Bool.and_eq_true] at e
  have := crewFrom_ok e.1 m hm
  unfold okM at this
  exact of_decide_eq_true this

theorem impl_AreCrew_ev {l : List S82} (hl : l.length ≤ 100000000) : Ev (fun k => impl_AreCrew.f k l) (areCrew l) := by
  have key := evScan l (fun k (_ : Unit) i => impl_AreCrew.l0 k l l (l.length : Int) i) (fun _ i t => crewFrom (prevId l i) t && decide (1 ≤ l.length ∧ l.length ≤ 8)) (fun _ _ => True) (fun _ _ => by
      refine Ev.step (f := fun _ => some (decide (1 ≤ l.length ∧ l.length ≤ 8))) (fun k => ?_) ?_
      · simp only [impl_AreCrew.l0, inRange_eq, Option.bind_some]
        rw [if_neg (by omega), Option.some.injEq, decide_eq_decide]
        omega
      · simp only [crewFrom, Bool.true_and]
        exact Ev.now _) (fun _ i t h ht _ ih => by
      have ih := ih () trivial
      rw [prevId_succ h] at ih
      have st : ∀ k, impl_AreCrew.l0 (k + 1) l l (l.length : Int) (i : Int) = if okM l[i] = true ∧ prevId l i < l[i].f0 then impl_AreCrew.l0 k l l (l.length : Int) ((i + 1 : Nat) : Int) else some false := by
        intro k
        simp only [impl_AreCrew.l0, inRange_eq, Option.bind_some]
        rw [if_pos (by omega), if_pos (by omega), if_pos (by omega), rdM h, wrapSucc (by omega)]
        unfold okM
        by_cases c0 : 1 ≤ l[i].f0 ∧ l[i].f0 ≤ 99
        · by_cases c1 : 0 < i
          · rw [← prevId_pos hl (by omega) c1]
            have w1 : wrap64 ((i : Int) - 1) = ((i - 1 : Nat) : Int) := by rw [wrapId (n := (i : Int) - 1) (by omega) (by omega)]; omega
            rw [w1]
            have g1 : (i : Int) > 0 := by omega
            have g2 : (0 : Int) ≤ ((i - 1 : Nat) : Int) := by omega
            have g3 : ((i - 1 : Nat) : Int) < (l.length : Int) := by omega
            by_cases c2 : l[i].f0 ≤ prevId l i
            · have n2 : ¬ prevId l i < l[i].f0 := by omega
              simp only [c0, and_self, decide_true, if_true, if_pos g1, if_pos g2, if_pos g3, if_pos c2, n2, and_false, if_false]
            · have n2 : prevId l i < l[i].f0 := by omega
              by_cases c3 : 0 ≤ l[i].f1 ∧ l[i].f1 ≤ 100
              · by_cases c4 : 1 ≤ l[i].f2 ∧ l[i].f2 ≤ 10
                · simp only [c0, c3, c4, and_self, decide_true, if_true, if_pos g1, if_pos g2, if_pos g3, if_neg c2, n2]
                · simp only [c0, c3, c4, and_self, decide_true, decide_false, if_true, if_false, Bool.false_eq_true, if_pos g1, if_pos g2, if_pos g3, if_neg c2, and_false, false_and]
              · simp only [c0, c3, and_self, decide_true, decide_false, if_true, if_false, Bool.false_eq_true, if_pos g1, if_pos g2, if_pos g3, if_neg c2, and_false, false_and]
          · have g1 : ¬ ((i : Int) > 0) := by omega
            have n2 : prevId l i < l[i].f0 := by
              unfold prevId
              rw [if_pos (by omega)]
              omega
            by_cases c3 : 0 ≤ l[i].f1 ∧ l[i].f1 ≤ 100
            · by_cases c4 : 1 ≤ l[i].f2 ∧ l[i].f2 ≤ 10
              · simp only [c0, c3, c4, and_self, decide_true, if_true, if_neg g1, n2]
              · simp only [c0, c3, c4, and_self, decide_true, decide_false, if_true, if_false, Bool.false_eq_true, if_neg g1, and_false, false_and]
            · simp only [c0, c3, and_self, decide_true, decide_false, if_true, if_false, Bool.false_eq_true, if_neg g1, and_false, false_and]
        · simp [c0]
      refine Ev.step st ?_
      by_cases c : okM l[i] = true ∧ prevId l i < l[i].f0
      · refine evPos c ?_
        simp only [crewFrom, c.1, c.2, decide_true, Bool.true_and]
        exact ih
      · refine evNeg c ?_
        have e : crewFrom (prevId l i) (l[i] :: t) = false := by
          simp only [crewFrom]
          by_cases d : okM l[i] = true
          · have n : ¬ prevId l i < l[i].f0 := fun x => c ⟨d, x⟩
            simp [n]
          · simp [d]
        rw [e, Bool.false_and]
        exact Ev.now _)
    () trivial
  unfold impl_AreCrew.f
  exact key

theorem spec_AreCrew_ev {l : List S82} (hl : l.length ≤ 100000000) : Ev (fun k => spec_AreCrew.f k l) (areCrew l) := by
  have key := evScan l (fun k (_ : Unit) i => spec_AreCrew.l0 k l i) (fun _ i t => crewFrom (prevId l i) t && decide (1 ≤ l.length ∧ l.length ≤ 8)) (fun _ _ => True) (fun _ _ => by
      refine Ev.step (f := fun _ => some (decide (1 ≤ l.length ∧ l.length ≤ 8))) (fun k => ?_) ?_
      · simp only [spec_AreCrew.l0, l1In_eq, Option.bind_some]
        rw [if_neg (by omega), Option.some.injEq, decide_eq_decide]
        omega
      · simp only [crewFrom, Bool.true_and]
        exact Ev.now _) (fun _ i t h ht _ ih => by
      have ih := ih () trivial
      rw [prevId_succ h] at ih
      have st : ∀ k, spec_AreCrew.l0 (k + 1) l (i : Int) = if okM l[i] = true ∧ prevId l i < l[i].f0 then spec_AreCrew.l0 k l ((i + 1 : Nat) : Int) else some false := by
        intro k
        simp only [spec_AreCrew.l0, l1In_eq, Option.bind_some]
        rw [if_pos (by omega), if_pos (by omega), rdM h, wrapSucc (by omega)]
        unfold okM
        by_cases c0 : 1 ≤ l[i].f0 ∧ l[i].f0 ≤ 99
        · by_cases c3 : 0 ≤ l[i].f1 ∧ l[i].f1 ≤ 100
          · by_cases c4 : 1 ≤ l[i].f2 ∧ l[i].f2 ≤ 10
            · by_cases c1 : 0 < i
              · rw [← prevId_pos hl (by omega) c1]
                have w1 : wrap64 ((i : Int) - 1) = ((i - 1 : Nat) : Int) := by rw [wrapId (n := (i : Int) - 1) (by omega) (by omega)]; omega
                rw [w1]
                have g1 : (i : Int) > 0 := by omega
                have g2 : (0 : Int) ≤ ((i - 1 : Nat) : Int) := by omega
                have g3 : ((i - 1 : Nat) : Int) < (l.length : Int) := by omega
                by_cases c2 : prevId l i ≥ l[i].f0
                · have n2 : ¬ prevId l i < l[i].f0 := by omega
                  simp only [c0, c3, c4, and_self, decide_true, if_true, if_pos g1, if_pos g2, if_pos g3, if_pos c2, n2, and_false, if_false]
                · have n2 : prevId l i < l[i].f0 := by omega
                  simp only [c0, c3, c4, and_self, decide_true, if_true, if_pos g1, if_pos g2, if_pos g3, if_neg c2, n2]
              · have g1 : ¬ ((i : Int) > 0) := by omega
                have n2 : prevId l i < l[i].f0 := by
                  unfold prevId
                  rw [if_pos (by omega)]
                  omega
                simp only [c0, c3, c4, and_self, decide_true, if_true, if_neg g1, n2]
            · simp [c0, c3, c4]
          · simp [c0, c3]
        · simp [c0]
      refine Ev.step st ?_
      by_cases c : okM l[i] = true ∧ prevId l i < l[i].f0
      · refine evPos c ?_
        simp only [crewFrom, c.1, c.2, decide_true, Bool.true_and]
        exact ih
      · refine evNeg c ?_
        have e : crewFrom (prevId l i) (l[i] :: t) = false := by
          simp only [crewFrom]
          by_cases d : okM l[i] = true
          · have n : ¬ prevId l i < l[i].f0 := fun x => c ⟨d, x⟩
            simp [n]
          · simp [d]
        rw [e, Bool.false_and]
        exact Ev.now _)
    () trivial
  unfold spec_AreCrew.f
  exact key

def isParty (w h : Int) (c : List Int) (b f : Int) (l : List S82) (p : List Bool) : Bool := decide (openOk w h c b) && (areCrew l && (decide (0 ≤ f ∧ f ≤ 10000) && decide ((p.length : Int) ≤ 10)))
theorem impl_IsParty_ev (w h : Int) (c : List Int) (b f : Int) {l : List S82} (p : List Bool) (hl : l.length ≤ 100000000) : Ev (fun k => impl_IsParty.f k w h c b f l p) (isParty w h c b f l p) := by
  unfold impl_IsParty.f isParty
  refine Ev.bind (impl_IsOpen_ev w h c b) ?_
  cases decide (openOk w h c b)
  · exact Ev.now _
  refine evPos rfl (Ev.bind (impl_AreCrew_ev hl) ?_)
  cases areCrew l
  · exact Ev.now _
  simp only [inRange_eq, Option.bind_some, if_true, Bool.true_and]
  cases decide (0 ≤ f ∧ f ≤ 10000)
  · exact Ev.now _
  · exact Ev.now _
theorem spec_IsParty_ev (w h : Int) (c : List Int) (b f : Int) {l : List S82} (p : List Bool) (hl : l.length ≤ 100000000) : Ev (fun k => spec_IsParty.f k w h c b f l p) (isParty w h c b f l p) := by
  unfold spec_IsParty.f isParty
  refine Ev.bind (spec_IsOpen_ev w h c b) ?_
  cases decide (openOk w h c b)
  · exact Ev.now _
  refine evPos rfl (Ev.bind (spec_AreCrew_ev hl) ?_)
  cases areCrew l
  · exact Ev.now _
  simp only [l1In_eq, Option.bind_some, if_true, Bool.true_and]
  cases decide (0 ≤ f ∧ f ≤ 10000)
  · exact Ev.now _
  · exact Ev.now _
def okS84 (x : S84) : Prop := (Lit.int .i64 x.f0).wf = true ∧ (Lit.int .i64 x.f1).wf = true ∧ (Lit.int .i64 x.f2).wf = true ∧ True
def FnExactIsParty.Claim : Prop := ∀ (a0_0 : Int) (a0_1 : Int) (l0_2 : List (Int)) (a1_0 : Int) (a1_1 : Int) (l1_2 : List (S84)) (l1_3 : List (Bool)), (Lit.int .i64 a0_0).wf = true → (Lit.int .i64 a0_1).wf = true → l0_2.length ≤ maxLen → (∀ x ∈ l0_2, (Lit.int .i64 x).wf = true) → (Lit.int .i64 a1_0).wf = true → (Lit.int .i64 a1_1).wf = true → l1_2.length ≤ maxLen → (∀ x ∈ l1_2, okS84 x) → l1_3.length ≤ maxLen → (∀ x ∈ l1_3, True) → ∃ k, laws_FnExactIsParty.f k a0_0 a0_1 l0_2 a1_0 a1_1 l1_2 l1_3 = some true
theorem FnExactIsParty : FnExactIsParty.Claim := by
  intro w h c b f l p _ _ hc _ _ _ hm _ hp _
  apply Ev.rounds
  unfold laws_FnExactIsParty.f
  rw [szLand_ok hc (by omega) (by omega)]
  simp only [Option.bind_some]
  by_cases qc : (c.length : Int) ≤ 1048576
  · rw [if_pos qc]
    refine evNeg (by omega) ?_
    rw [szParty_ok hm hp (by omega) (by omega)]
    simp only [Option.bind_some]
    by_cases ql : (l.length : Int) + (p.length : Int) ≤ 1048576 - (c.length : Int)
    · rw [if_pos ql]
      refine evNeg (by omega) ?_
      have hcl : c.length ≤ 1048576 := by omega
      have hl : l.length ≤ 1048576 := by omega
      have hp' : p.length ≤ 1048576 := by omega
      have hl' : (l.map mem).length ≤ 1048576 := by rw [List.length_map]; exact hl
      have h8 : (l.map mem).length ≤ 100000000 := by omega
      exact Ev.bind (toLand_ev hcl) (Ev.bind (toParty_ev hl hp') (Ev.bind (spec_IsParty_ev w h c b f p h8) (Ev.bind (toLand_ev hcl) (Ev.bind (toParty_ev hl hp') (Ev.bind (impl_IsParty_ev w h c b f p h8) (evNeg (by simp) (Ev.bind (toLand_ev hcl) (Ev.bind (eqLand_same hcl) (evPos rfl (Ev.bind (toParty_ev hl hp') (Ev.bind (eqParty_same hl' hp') (evPos rfl (Ev.now _)))))))))))))
    · rw [if_neg ql]
      exact evPos (by omega) (Ev.now _)
  · rw [if_neg qc]
    exact evPos (by omega) (Ev.now _)
end Go.Proofs.Ytijfpcaahcnbbaa.Pure
