/- For every land, base, rule and party, the program's NeedHome and the reference's give the same number: the law's Go function answers true. No condition beyond the kinds of the numbers. -/
import Derived.Test.YtdgpnmbmnnmdcabPFnExactNeedHomex14
import Derived.Test.YtdgpnmbmnnmdcabAid
namespace Go.Proofs.Ytdgpnmbmnnmdcab.Pure
open Go.RowKit Go.Proofs.Ytdgpnmbmnnmdcab.PFnExactNeedHome Go.Proofs.Ytdgpnmbmnnmdcab.Aid Go.Proofs.YtdgpnmbmnnmdcabW.PrintWords Go.Proofs.YtdgpnmbmnnmdcabW.PrintLast Go.Proofs.YtdgpnmbmnnmdcabW.PrintMore
set_option linter.unusedVariables false
set_option linter.unusedSimpArgs false
theorem toIntS_ev {l : List Int} (hl : l.length ≤ 1048576) : Ev (fun k => laws_toIntS.f k l) l := by
  have key := evScan l (fun k (acc : List Int) i => laws_toIntS.l0 k l acc i) (fun _ _ _ => l) (fun acc i => acc.length = l.length ∧ acc.take i = l.take i) (fun acc ⟨h0, h1⟩ => by
      refine Ev.step (f := fun _ => some acc) (fun k => ?_) ?_
      · simp only [laws_toIntS.l0]
        rw [if_neg (by omega)]
      · rw [take_whole h0 h1]
        exact Ev.now _) (fun acc i t h ht ⟨h0, h1⟩ ih => by
      refine Ev.step (fun k => ?_) (ih (acc.set i l[i]) ⟨by simpa using h0, take_set_succ h h0 h1⟩)
      simp only [laws_toIntS.l0]
      rw [if_pos (by omega), if_pos (by omega), if_pos (by omega), rdIn h, wrapSucc (by omega), toNatCast])
    (List.replicate l.length 0) ⟨by simp, by simp⟩
  refine Ev.congr (fun k => ?_) key
  simp only [laws_toIntS.f]
  rw [if_pos (by omega), if_pos (by omega), toNatCast]

theorem eqIntS_ev {a b : List Int} (ha : a.length ≤ 1048576) : Ev (fun k => laws_eqIntS.f k a b) (decide (a = b)) := by
  by_cases e : a.length = b.length
  · have key := evScan a (fun k (_ : Unit) i => laws_eqIntS.l0 k a b i) (fun _ i t => decide (t = b.drop i)) (fun _ _ => True) (fun _ _ => by
        refine Ev.step (f := fun _ => some true) (fun k => ?_) ?_
        · simp only [laws_eqIntS.l0]
          rw [if_neg (by omega)]
        · rw [e, List.drop_length]
          exact Ev.now _) (fun _ i t h ht _ ih => by
        have hb : i < b.length := by omega
        have st : ∀ k, laws_eqIntS.l0 (k + 1) a b (i : Int) = if a[i] = b[i] then laws_eqIntS.l0 k a b ((i + 1 : Nat) : Int) else some false := by
          intro k
          simp only [laws_eqIntS.l0]
          rw [if_pos (by omega), if_pos (by omega), if_pos (by omega), rdIn h, rdIn hb, wrapSucc (by omega)]
        refine Ev.step st ?_
        rw [List.drop_eq_getElem_cons hb]
        by_cases c : a[i] = b[i]
        · refine evPos c ?_
          rw [show decide (a[i] :: t = b[i] :: b.drop (i + 1)) = decide (t = b.drop (i + 1)) by rw [decide_eq_decide, List.cons.injEq, and_iff_right c]]
          exact ih () trivial
        · refine evNeg c ?_
          rw [show decide (a[i] :: t = b[i] :: b.drop (i + 1)) = false by rw [decide_eq_false_iff_not, List.cons.injEq]; exact fun e => c e.1]
          exact Ev.now _)
      () trivial
    refine Ev.congr (fun k => ?_) key
    simp only [laws_eqIntS.f]
    rw [if_pos (by omega)]
  · have ne : ¬ a = b := fun h => e (by rw [h])
    refine Ev.congr (f := fun _ => some (decide (a = b))) (fun k => ?_) (Ev.now _)
    simp only [laws_eqIntS.f]
    rw [if_neg (by omega), decide_eq_false ne]
theorem eqIntS_same {a : List Int} (ha : a.length ≤ 1048576) : Ev (fun k => laws_eqIntS.f k a a) true := by
  have := eqIntS_ev (a := a) (b := a) ha
  rwa [decide_eq_true rfl] at this

theorem szIntS_ok {l : List Int} {q : Int} (hl : l.length ≤ maxLen) (h0 : 0 ≤ q) (h1 : q ≤ 1048576) : laws_szIntS.f l q = some (if (l.length : Int) ≤ q then q - (l.length : Int) else -1) := by
  unfold laws_szIntS.f
  unfold maxLen at hl
  rw [wrapId (n := q - (l.length : Int)) (by omega) (by omega)]
  by_cases c : (l.length : Int) ≤ q
  · rw [if_neg (by omega), if_pos c]
  · rw [if_pos (by omega), if_neg c]
theorem szLand_ok {w h : Int} {l : List Int} {q : Int} (hl : l.length ≤ maxLen) (h0 : 0 ≤ q) (h1 : q ≤ 1048576) : laws_szLand.f w h l q = some (if (l.length : Int) ≤ q then q - (l.length : Int) else -1) := by
  unfold laws_szLand.f
  rw [szIntS_ok hl h0 h1, Option.bind_some]
  by_cases c : (l.length : Int) ≤ q
  · rw [if_pos c, if_neg (by omega)]
  · rw [if_neg c, if_pos (by omega)]
theorem toLand_ev {w h : Int} {l : List Int} (hl : l.length ≤ 1048576) : Ev (fun k => laws_toLand.f k w h l) (w, h, l) := by
  unfold laws_toLand.f
  exact Ev.bind (toIntS_ev hl) (Ev.now _)
theorem eqLand_same {w h : Int} {l : List Int} (hl : l.length ≤ 1048576) : Ev (fun k => laws_eqLand.f k w h l w h l) true := by
  unfold laws_eqLand.f
  exact evPos rfl (evPos rfl (Ev.bind (eqIntS_same hl) (evPos rfl (Ev.now _))))

theorem szMemberS_ok {l : List S97} {q : Int} (hl : l.length ≤ maxLen) (h0 : 0 ≤ q) (h1 : q ≤ 1048576) : laws_szMemberS.f l q = some (if (l.length : Int) ≤ q then q - (l.length : Int) else -1) := by
  unfold laws_szMemberS.f
  unfold maxLen at hl
  rw [wrapId (n := q - (l.length : Int)) (by omega) (by omega)]
  by_cases c : (l.length : Int) ≤ q
  · rw [if_neg (by omega), if_pos c]
  · rw [if_pos (by omega), if_neg c]

theorem rdM {xs : List S95} {i : Nat} (h : i < xs.length) : rd_T95 xs (i : Int) = xs[i] := by
  unfold rd_T95
  rw [Int.toNat_natCast, getD_lt h]

def mem (x : S97) : S95 := ⟨x.f0, x.f1, x.f2, x.f3⟩
theorem rdLM {xs : List S97} {i : Nat} (h : i < xs.length) : rd_T97 xs (i : Int) = xs[i] := by
  unfold rd_T97
  rw [Int.toNat_natCast, getD_lt h]
theorem toMemberS_ev {l : List S97} (hl : l.length ≤ 1048576) : Ev (fun k => laws_toMemberS.f k l) (l.map mem) := by
  have key := evScan l (fun k (acc : List S95) i => laws_toMemberS.l0 k l acc i) (fun _ _ _ => l.map mem) (fun acc i => acc.length = (l.map mem).length ∧ acc.take i = (l.map mem).take i) (fun acc ⟨h0, h1⟩ => by
      refine Ev.step (f := fun _ => some acc) (fun k => ?_) ?_
      · simp only [laws_toMemberS.l0]
        rw [if_neg (by omega)]
      · rw [take_whole h0 (by rw [List.length_map]; exact h1)]
        exact Ev.now _) (fun acc i t h ht ⟨h0, h1⟩ ih => by
      have hm : i < (l.map mem).length := by rw [List.length_map]; exact h
      have hs := take_set_succ hm h0 h1
      rw [List.length_map] at h0
      refine Ev.step (fun k => ?_) (ih (acc.set i (l.map mem)[i]) ⟨by simpa using h0, hs⟩)
      simp only [laws_toMemberS.l0, laws_toMember.f, Option.bind_some]
      rw [if_pos (by omega), if_pos (by omega), if_pos (by omega), rdLM h, wrapSucc (by omega), toNatCast, List.getElem_map]
      rfl)
    (List.replicate l.length z95) ⟨by simp, by simp⟩
  refine Ev.congr (fun k => ?_) key
  simp only [laws_toMemberS.f]
  rw [if_pos (by omega), if_pos (by omega), toNatCast]

theorem eqMemberS_same {a : List S95} (ha : a.length ≤ 1048576) : Ev (fun k => laws_eqMemberS.f k a a) true := by
  have key := evScan a (fun k (_ : Unit) i => laws_eqMemberS.l0 k a a i) (fun _ _ _ => true) (fun _ _ => True) (fun _ _ => by
      refine Ev.step (f := fun _ => some true) (fun k => ?_) (Ev.now _)
      simp only [laws_eqMemberS.l0]
      rw [if_neg (by omega)]) (fun _ i t h _ _ ih => by
      refine Ev.step (fun k => ?_) (ih () trivial)
      simp only [laws_eqMemberS.l0, laws_eqMember.f, if_true, bne_self_eq_false, Bool.false_eq_true, if_false, Option.bind_some]
      rw [if_pos (by omega), if_pos (by omega), if_pos (by omega), wrapSucc (by omega)])
    () trivial
  refine Ev.congr (fun k => ?_) key
  simp only [laws_eqMemberS.f, if_true]

theorem rdOfIn {xs : List Bool} {i : Nat} (h : i < xs.length) : rdOf false xs (i : Int) = xs[i] := by
  unfold rdOf
  rw [Int.toNat_natCast, getD_lt h]
theorem toBoolS_ev {l : List Bool} (hl : l.length ≤ 1048576) : Ev (fun k => laws_toBoolS.f k l) l := by
  have key := evScan l (fun k (acc : List Bool) i => laws_toBoolS.l0 k l acc i) (fun _ _ _ => l) (fun acc i => acc.length = l.length ∧ acc.take i = l.take i) (fun acc ⟨h0, h1⟩ => by
      refine Ev.step (f := fun _ => some acc) (fun k => ?_) ?_
      · simp only [laws_toBoolS.l0]
        rw [if_neg (by omega)]
      · rw [take_whole h0 h1]
        exact Ev.now _) (fun acc i t h ht ⟨h0, h1⟩ ih => by
      refine Ev.step (fun k => ?_) (ih (acc.set i l[i]) ⟨by simpa using h0, take_set_succ h h0 h1⟩)
      simp only [laws_toBoolS.l0]
      rw [if_pos (by omega), if_pos (by omega), if_pos (by omega), rdOfIn h, wrapSucc (by omega), toNatCast])
    (List.replicate l.length false) ⟨by simp, by simp⟩
  refine Ev.congr (fun k => ?_) key
  simp only [laws_toBoolS.f]
  rw [if_pos (by omega), if_pos (by omega), toNatCast]
theorem eqBoolS_same {a : List Bool} (ha : a.length ≤ 1048576) : Ev (fun k => laws_eqBoolS.f k a a) true := by
  have key := evScan a (fun k (_ : Unit) i => laws_eqBoolS.l0 k a a i) (fun _ _ _ => true) (fun _ _ => True) (fun _ _ => by
      refine Ev.step (f := fun _ => some true) (fun k => ?_) (Ev.now _)
      simp only [laws_eqBoolS.l0]
      rw [if_neg (by omega)]) (fun _ i t h _ _ ih => by
      refine Ev.step (fun k => ?_) (ih () trivial)
      simp only [laws_eqBoolS.l0, bne_self_eq_false, Bool.false_eq_true, if_false]
      rw [if_pos (by omega), if_pos (by omega), if_pos (by omega), wrapSucc (by omega)])
    () trivial
  refine Ev.congr (fun k => ?_) key
  simp only [laws_eqBoolS.f, if_true]
theorem szBoolS_ok {l : List Bool} {q : Int} (hl : l.length ≤ maxLen) (h0 : 0 ≤ q) (h1 : q ≤ 1048576) : laws_szBoolS.f l q = some (if (l.length : Int) ≤ q then q - (l.length : Int) else -1) := by
  unfold laws_szBoolS.f
  unfold maxLen at hl
  rw [wrapId (n := q - (l.length : Int)) (by omega) (by omega)]
  by_cases c : (l.length : Int) ≤ q
  · rw [if_neg (by omega), if_pos c]
  · rw [if_pos (by omega), if_neg c]
theorem szParty_ok {a f : Int} {l : List S97} {p : List Bool} {q : Int} (hl : l.length ≤ maxLen) (hp : p.length ≤ maxLen) (h0 : 0 ≤ q) (h1 : q ≤ 1048576) :
    laws_szParty.f a f l p q = some (if (l.length : Int) + (p.length : Int) ≤ q then q - (l.length : Int) - (p.length : Int) else -1) := by
  unfold laws_szParty.f
  rw [szMemberS_ok hl h0 h1, Option.bind_some]
  by_cases c : (l.length : Int) ≤ q
  · rw [if_pos c, if_neg (by omega), szBoolS_ok hp (by omega) (by omega), Option.bind_some]
    by_cases d : (p.length : Int) ≤ q - (l.length : Int)
    · rw [if_pos d, if_neg (by omega), if_pos (by omega)]
    · rw [if_neg d, if_pos (by omega), if_neg (by omega)]
  · rw [if_neg c, if_pos (by omega), if_neg (by omega)]
theorem toParty_ev {a f : Int} {l : List S97} {p : List Bool} (hl : l.length ≤ 1048576) (hp : p.length ≤ 1048576) : Ev (fun k => laws_toParty.f k a f l p) (a, f, l.map mem, p) := by
  unfold laws_toParty.f
  exact Ev.bind (toMemberS_ev hl) (Ev.bind (toBoolS_ev hp) (Ev.now _))
theorem eqParty_same {a f : Int} {l : List S95} {p : List Bool} (hl : l.length ≤ 1048576) (hp : p.length ≤ 1048576) : Ev (fun k => laws_eqParty.f k a f l p a f l p) true := by
  unfold laws_eqParty.f
  exact evPos rfl (evPos rfl (Ev.bind (eqMemberS_same hl) (evPos rfl (Ev.bind (eqBoolS_same hp) (evPos rfl (Ev.now _))))))

theorem inRange_eq (a b c : Int) : impl_InRange.f a b c = some (decide (b ≤ a ∧ a ≤ c)) := by
  unfold impl_InRange.f
  by_cases h : b ≤ a
  · rw [if_pos h]
    simp [h]
  · rw [if_neg h]
    simp [h]

def inB (lo hi : Int) (l : List Int) : Bool := l.all (fun x => decide (lo ≤ x ∧ x ≤ hi))
theorem inB_iff {lo hi : Int} {l : List Int} : inB lo hi l = true ↔ ∀ x ∈ l, lo ≤ x ∧ x ≤ hi := by
  unfold inB
  simp only [List.all_eq_true, decide_eq_true_eq]
theorem inB_yes {lo hi x : Int} {t : List Int} (d : lo ≤ x ∧ x ≤ hi) : inB lo hi (x :: t) = inB lo hi t := by
  simp only [inB, List.all_cons, d, and_self, decide_true, Bool.true_and]
theorem inB_no {lo hi x : Int} {t : List Int} (d : ¬ (lo ≤ x ∧ x ≤ hi)) : inB lo hi (x :: t) = false := by
  simp only [inB, List.all_cons, d, decide_false, Bool.false_and]
/-- A land: its sides, its cells. -/
def landOk (w h : Int) (c : List Int) : Prop := ((1 ≤ w ∧ w ≤ 8) ∧ (1 ≤ h ∧ h ≤ 8)) ∧ (c.length : Int) = w * h ∧ ∀ x ∈ c, 0 ≤ x ∧ x ≤ 2
instance (w h : Int) (c : List Int) : Decidable (landOk w h c) := inferInstanceAs (Decidable (_ ∧ _))
def cellOk (w h : Int) (c : List Int) (n : Int) : Prop := landOk w h c ∧ 0 ≤ n ∧ n < (c.length : Int)
instance (w h : Int) (c : List Int) (n : Int) : Decidable (cellOk w h c n) := inferInstanceAs (Decidable (_ ∧ _))
def openOk (w h : Int) (c : List Int) (n : Int) : Prop := cellOk w h c n ∧ rd c n ≠ 2
instance (w h : Int) (c : List Int) (n : Int) : Decidable (openOk w h c n) := inferInstanceAs (Decidable (_ ∧ _))
theorem sideB {w h : Int} (hw : 1 ≤ w ∧ w ≤ 8) (hh : 1 ≤ h ∧ h ≤ 8) : 1 ≤ w * h ∧ w * h ≤ 64 := by
  have h0 : 1 * 1 ≤ w * h := Int.mul_le_mul hw.1 hh.1 (by omega) (by omega)
  have h1 : w * h ≤ 8 * 8 := Int.mul_le_mul hw.2 hh.2 (by omega) (by omega)
  omega
theorem landOk.len {w h : Int} {c : List Int} (x : landOk w h c) : 1 ≤ c.length ∧ c.length ≤ 64 := by
  have := sideB x.1.1 x.1.2
  have := x.2.1
  omega

theorem allIn_ev {l : List Int} (lo hi : Int) (hl : l.length ≤ 100000000) : Ev (fun k => impl_allIn.f k l lo hi) (inB lo hi l) := by
  have key := evScan l (fun k (_ : Unit) i => impl_allIn.l0 k lo hi l (l.length : Int) i) (fun _ _ t => inB lo hi t) (fun _ _ => True) (fun _ _ => by
      rw [show inB lo hi [] = true from rfl]
      refine Ev.step (f := fun _ => some true) (fun k => ?_) (Ev.now _)
      simp only [impl_allIn.l0]
      rw [if_neg (by omega)]) (fun _ i t h _ _ ih => by
      have st : ∀ k, impl_allIn.l0 (k + 1) lo hi l (l.length : Int) (i : Int) = if decide (lo ≤ l[i] ∧ l[i] ≤ hi) = true then impl_allIn.l0 k lo hi l (l.length : Int) ((i + 1 : Nat) : Int) else some false := by
        intro k
        simp only [impl_allIn.l0, inRange_eq, Option.bind_some]
        rw [if_pos (by omega), if_pos (by omega), if_pos (by omega), rdIn h, wrapSucc (by omega)]
      refine Ev.step st ?_
      by_cases d : lo ≤ l[i] ∧ l[i] ≤ hi
      · refine evPos (decide_eq_true d) ?_
        rw [inB_yes d]
        exact ih () trivial
      · refine evNeg (by rw [decide_eq_true_eq]; exact d) ?_
        rw [inB_no d]
        exact Ev.now _)
    () trivial
  unfold impl_allIn.f
  exact key
theorem impl_IsLand_ev (w h : Int) (c : List Int) : Ev (fun k => impl_IsLand.f k w h c) (decide (landOk w h c)) := by
  unfold impl_IsLand.f
  simp only [inRange_eq, Option.bind_some]
  by_cases c0 : 1 ≤ w ∧ w ≤ 8
  · refine evPos (decide_eq_true c0) ?_
    by_cases c1 : 1 ≤ h ∧ h ≤ 8
    · have sb := sideB c0 c1
      refine evPos (decide_eq_true c1) ?_
      rw [wrapId (n := w * h) (by omega) (by omega)]
      by_cases c2 : (c.length : Int) = w * h
      · refine evPos c2 (Ev.bind (allIn_ev 0 2 (by omega)) ?_)
        rw [show decide (landOk w h c) = inB 0 2 c by rw [Bool.eq_iff_iff, decide_eq_true_eq, inB_iff]; exact ⟨fun x => x.2.2, fun x => ⟨⟨c0, c1⟩, c2, x⟩⟩]
        exact Ev.now _
      · rw [decide_eq_false (fun x : landOk w h c => c2 x.2.1)]
        exact evNeg c2 (Ev.now _)
    · rw [decide_eq_false (fun x : landOk w h c => c1 x.1.2)]
      exact evNeg (by rw [decide_eq_true_eq]; exact c1) (Ev.now _)
  · rw [decide_eq_false (fun x : landOk w h c => c0 x.1.1)]
    exact evNeg (by rw [decide_eq_true_eq]; exact c0) (Ev.now _)
theorem impl_IsCell_ev (w h : Int) (c : List Int) (n : Int) : Ev (fun k => impl_IsCell.f k w h c n) (decide (cellOk w h c n)) := by
  unfold impl_IsCell.f
  refine Ev.bind (impl_IsLand_ev w h c) ?_
  by_cases q : landOk w h c
  · refine evPos (decide_eq_true q) ?_
    have := q.len
    simp only [inRange_eq, Option.bind_some]
    rw [wrapId (n := (c.length : Int) - 1) (by omega) (by omega), show decide (cellOk w h c n) = decide (0 ≤ n ∧ n ≤ (c.length : Int) - 1) by rw [decide_eq_decide]; exact ⟨fun x => ⟨x.2.1, by have := x.2.2; omega⟩, fun x => ⟨q, x.1, by omega⟩⟩]
    exact Ev.now _
  · rw [decide_eq_false (fun x : cellOk w h c n => q x.1)]
    exact evNeg (by rw [decide_eq_true_eq]; exact q) (Ev.now _)

theorem impl_IsOpen_ev (w h : Int) (c : List Int) (n : Int) : Ev (fun k => impl_IsOpen.f k w h c n) (decide (openOk w h c n)) := by
  unfold impl_IsOpen.f
  refine Ev.bind (impl_IsCell_ev w h c n) ?_
  by_cases q : cellOk w h c n
  · refine evPos (decide_eq_true q) (evPos q.2.1 (evPos q.2.2 ?_))
    rw [show decide (openOk w h c n) = (rd c n != 2) by rw [Bool.eq_iff_iff, decide_eq_true_eq, bne_iff_ne]; exact ⟨fun x => x.2, fun x => ⟨q, x⟩⟩]
    exact Ev.now _
  · rw [decide_eq_false (fun x : openOk w h c n => q x.1)]
    exact evNeg (by rw [decide_eq_true_eq]; exact q) (Ev.now _)

theorem l1In_eq (a b c : Int) : spec_l1In.f a b c = some (decide (b ≤ a ∧ a ≤ c)) := by
  unfold spec_l1In.f
  by_cases h : b ≤ a
  · rw [if_pos h]
    simp [h]
  · rw [if_neg h]
    simp [h]

theorem spec_IsLand_ev (w h : Int) (c : List Int) : Ev (fun k => spec_IsLand.f k w h c) (decide (landOk w h c)) := by
  have no : ∀ (q : ¬ landOk w h c), Ev (fun k => spec_IsLand.j0 k true w h c) (decide (landOk w h c)) := by
    intro q
    rw [decide_eq_false q]
    refine Ev.step (f := fun _ => some false) (fun k => ?_) (Ev.now _)
    simp only [spec_IsLand.j0, if_true]
  unfold spec_IsLand.f
  simp only [l1In_eq, Option.bind_some]
  by_cases c0 : 1 ≤ w ∧ w ≤ 8
  · refine evPos (decide_eq_true c0) ?_
    by_cases c1 : 1 ≤ h ∧ h ≤ 8
    · have sb := sideB c0 c1
      refine evPos (decide_eq_true c1) ?_
      rw [wrapId (n := w * h) (by omega) (by omega)]
      by_cases c2 : (c.length : Int) = w * h
      · rw [show ((c.length : Int) != w * h) = false by simp [c2], show decide (landOk w h c) = inB 0 2 c by rw [Bool.eq_iff_iff, decide_eq_true_eq, inB_iff]; exact ⟨fun x => x.2.2, fun x => ⟨⟨c0, c1⟩, c2, x⟩⟩]
        refine Ev.step (f := fun k => spec_IsLand.l0 k 0 w h c) (fun k => ?_) ?_
        · simp only [spec_IsLand.j0, Bool.false_eq_true, if_false]
        exact evScan c (fun k (_ : Unit) i => spec_IsLand.l0 k i w h c) (fun _ _ t => inB 0 2 t) (fun _ _ => True) (fun _ _ => by
          rw [show inB 0 2 [] = true from rfl]
          refine Ev.step (f := fun _ => some true) (fun k => ?_) (Ev.now _)
          simp only [spec_IsLand.l0]
          rw [if_neg (by omega)]) (fun _ i t hi _ _ ih => by
          have st : ∀ k, spec_IsLand.l0 (k + 1) (i : Int) w h c = if decide (0 ≤ c[i] ∧ c[i] ≤ 2) = true then spec_IsLand.l0 k ((i + 1 : Nat) : Int) w h c else some false := by
            intro k
            simp only [spec_IsLand.l0, l1In_eq, Option.bind_some]
            rw [if_pos (by omega), if_pos (by omega), rdIn hi, wrapSucc (by omega)]
          refine Ev.step st ?_
          by_cases d : 0 ≤ c[i] ∧ c[i] ≤ 2
          · refine evPos (decide_eq_true d) ?_
            rw [inB_yes d]
            exact ih () trivial
          · refine evNeg (by rw [decide_eq_true_eq]; exact d) ?_
            rw [inB_no d]
            exact Ev.now _)
          () trivial
      · rw [show ((c.length : Int) != w * h) = true by simp [c2]]
        exact no (fun x => c2 x.2.1)
    · exact evNeg (by rw [decide_eq_true_eq]; exact c1) (no (fun x => c1 x.1.2))
  · exact evNeg (by rw [decide_eq_true_eq]; exact c0) (no (fun x => c0 x.1.1))
theorem spec_IsCell_ev (w h : Int) (c : List Int) (n : Int) : Ev (fun k => spec_IsCell.f k w h c n) (decide (cellOk w h c n)) := by
  unfold spec_IsCell.f
  refine Ev.bind (spec_IsLand_ev w h c) ?_
  by_cases q : landOk w h c
  · refine evPos (decide_eq_true q) ?_
    have := q.len
    simp only [l1In_eq, Option.bind_some]
    rw [wrapId (n := (c.length : Int) - 1) (by omega) (by omega), show decide (cellOk w h c n) = decide (0 ≤ n ∧ n ≤ (c.length : Int) - 1) by rw [decide_eq_decide]; exact ⟨fun x => ⟨x.2.1, by have := x.2.2; omega⟩, fun x => ⟨q, x.1, by omega⟩⟩]
    exact Ev.now _
  · rw [decide_eq_false (fun x : cellOk w h c n => q x.1)]
    exact evNeg (by rw [decide_eq_true_eq]; exact q) (Ev.now _)

theorem spec_IsOpen_ev (w h : Int) (c : List Int) (n : Int) : Ev (fun k => spec_IsOpen.f k w h c n) (decide (openOk w h c n)) := by
  unfold spec_IsOpen.f
  refine Ev.bind (spec_IsCell_ev w h c n) ?_
  by_cases q : cellOk w h c n
  · refine evPos (decide_eq_true q) (evPos q.2.1 (evPos q.2.2 ?_))
    rw [show decide (openOk w h c n) = (rd c n != 2) by rw [Bool.eq_iff_iff, decide_eq_true_eq, bne_iff_ne]; exact ⟨fun x => x.2, fun x => ⟨q, x⟩⟩]
    exact Ev.now _
  · rw [decide_eq_false (fun x : openOk w h c n => q x.1)]
    exact evNeg (by rw [decide_eq_true_eq]; exact q) (Ev.now _)

def okM (m : S95) : Bool := decide ((1 ≤ m.f0 ∧ m.f0 ≤ 99) ∧ (0 ≤ m.f1 ∧ m.f1 ≤ 100) ∧ (1 ≤ m.f2 ∧ m.f2 ≤ 10))
/-- Members of a crew, behind one whose number is p. -/
def crewFrom : Int → List S95 → Bool
  | _, [] => true
  | p, m :: t => okM m && (decide (p < m.f0) && crewFrom m.f0 t)
def areCrew (l : List S95) : Bool := crewFrom 0 l && decide (1 ≤ l.length ∧ l.length ≤ 8)
def prevId (l : List S95) (i : Nat) : Int := if i = 0 then 0 else (l.getD (i - 1) z95).f0
theorem prevId_succ {l : List S95} {i : Nat} (h : i < l.length) : prevId l (i + 1) = l[i].f0 := by
  unfold prevId
  rw [if_neg (by omega), Nat.add_sub_cancel, getD_lt h]
theorem prevId_pos {l : List S95} {i : Nat} (hl : l.length ≤ 100000000) (h : i ≤ l.length) (h0 : 0 < i) : prevId l i = (rd_T95 l (wrap64 ((i : Int) - 1))).f0 := by
  rw [wrapId (n := (i : Int) - 1) (by omega) (by omega), show ((i : Int) - 1) = ((i - 1 : Nat) : Int) by omega, rdM (by omega)]
  unfold prevId
  rw [if_neg (by omega), getD_lt (by omega)]
theorem crewFrom_ok : ∀ {l : List S95} {p : Int}, crewFrom p l = true → ∀ m ∈ l, okM m = true
  | [], _, _, m, h => by cases h
  | x :: t, p, e, m, h => by
    simp only [crewFrom, Bool.and_eq_true] at e
    rcases List.mem_cons.1 h with rfl | h
    · exact e.1
    · exact crewFrom_ok e.2.2 m h
theorem areCrew_len {l : List S95} (e : areCrew l = true) : 1 ≤ l.length ∧ l.length ≤ 8 := by
  unfold areCrew at e
  simp only [Bool.and_eq_true, decide_eq_true_eq] at e
  exact e.2
theorem areCrew_ok {l : List S95} (e : areCrew l = true) : ∀ m ∈ l, (1 ≤ m.f0 ∧ m.f0 ≤ 99) ∧ (0 ≤ m.f1 ∧ m.f1 ≤ 100) ∧ (1 ≤ m.f2 ∧ m.f2 ≤ 10) := by
  intro m hm
  unfold areCrew at e
  simp only [Bool.and_eq_true] at e
  have := crewFrom_ok e.1 m hm
  unfold okM at this
  exact of_decide_eq_true this

theorem impl_AreCrew_ev {l : List S95} (hl : l.length ≤ 100000000) : Ev (fun k => impl_AreCrew.f k l) (areCrew l) := by
  have key := evScan l (fun k (_ : Unit) i => impl_AreCrew.l0 k l l (l.length : Int) i) (fun _ i t => crewFrom (prevId l i) t && decide (1 ≤ l.length ∧ l.length ≤ 8)) (fun _ _ => True) (fun _ _ => by
      refine Ev.step (f := fun _ => some (decide (1 ≤ l.length ∧ l.length ≤ 8))) (fun k => ?_) ?_
      · simp only [impl_AreCrew.l0, inRange_eq, Option.bind_some]
        rw [if_neg (by omega), Option.some.injEq, decide_eq_decide]
        omega
      · simp only [crewFrom, Bool.true_and]
        exact Ev.now _) (fun _ i t h ht _ ih => by
      have ih := ih () trivial
      rw [prevId_succ h] at ih
      have st : ∀ k, impl_AreCrew.l0 (k + 1) l l (l.length : Int) (i : Int) = if okM l[i] = true ∧ prevId l i < l[i].f0 then impl_AreCrew.l0 k l l (l.length : Int) ((i + 1 : Nat) : Int) else some false := by
        intro k
        simp only [impl_AreCrew.l0, inRange_eq, Option.bind_some]
        rw [if_pos (by omega), if_pos (by omega), if_pos (by omega), rdM h, wrapSucc (by omega)]
        unfold okM
        by_cases c0 : 1 ≤ l[i].f0 ∧ l[i].f0 ≤ 99
        · by_cases c1 : 0 < i
          · rw [← prevId_pos hl (by omega) c1]
            have w1 : wrap64 ((i : Int) - 1) = ((i - 1 : Nat) : Int) := by rw [wrapId (n := (i : Int) - 1) (by omega) (by omega)]; omega
            rw [w1]
            have g1 : (i : Int) > 0 := by omega
            have g2 : (0 : Int) ≤ ((i - 1 : Nat) : Int) := by omega
            have g3 : ((i - 1 : Nat) : Int) < (l.length : Int) := by omega
            by_cases c2 : l[i].f0 ≤ prevId l i
            · have n2 : ¬ prevId l i < l[i].f0 := by omega
              simp only [c0, and_self, decide_true, if_true, if_pos g1, if_pos g2, if_pos g3, if_pos c2, n2, and_false, if_false]
            · have n2 : prevId l i < l[i].f0 := by omega
              by_cases c3 : 0 ≤ l[i].f1 ∧ l[i].f1 ≤ 100
              · by_cases c4 : 1 ≤ l[i].f2 ∧ l[i].f2 ≤ 10
                · simp only [c0, c3, c4, and_self, decide_true, if_true, if_pos g1, if_pos g2, if_pos g3, if_neg c2, n2]
                · simp only [c0, c3, c4, and_self, decide_true, decide_false, if_true, if_false, Bool.false_eq_true, if_pos g1, if_pos g2, if_pos g3, if_neg c2, and_false, false_and]
              · simp only [c0, c3, and_self, decide_true, decide_false, if_true, if_false, Bool.false_eq_true, if_pos g1, if_pos g2, if_pos g3, if_neg c2, and_false, false_and]
          · have g1 : ¬ ((i : Int) > 0) := by omega
            have n2 : prevId l i < l[i].f0 := by
              unfold prevId
              rw [if_pos (by omega)]
              omega
            by_cases c3 : 0 ≤ l[i].f1 ∧ l[i].f1 ≤ 100
            · by_cases c4 : 1 ≤ l[i].f2 ∧ l[i].f2 ≤ 10
              · simp only [c0, c3, c4, and_self, decide_true, if_true, if_neg g1, n2]
              · simp only [c0, c3, c4, and_self, decide_true, decide_false, if_true, if_false, Bool.false_eq_true, if_neg g1, and_false, false_and]
            · simp only [c0, c3, and_self, decide_true, decide_false, if_true, if_false, Bool.false_eq_true, if_neg g1, and_false, false_and]
        · simp [c0]
      refine Ev.step st ?_
      by_cases c : okM l[i] = true ∧ prevId l i < l[i].f0
      · refine evPos c ?_
        simp only [crewFrom, c.1, c.2, decide_true, Bool.true_and]
        exact ih
      · refine evNeg c ?_
        have e : crewFrom (prevId l i) (l[i] :: t) = false := by
          simp only [crewFrom]
          by_cases d : okM l[i] = true
          · have n : ¬ prevId l i < l[i].f0 := fun x => c ⟨d, x⟩
            simp [n]
          · simp [d]
        rw [e, Bool.false_and]
        exact Ev.now _)
    () trivial
  unfold impl_AreCrew.f
  exact key

theorem spec_AreCrew_ev {l : List S95} (hl : l.length ≤ 100000000) : Ev (fun k => spec_AreCrew.f k l) (areCrew l) := by
  have key := evScan l (fun k (_ : Unit) i => spec_AreCrew.l0 k l i) (fun _ i t => crewFrom (prevId l i) t && decide (1 ≤ l.length ∧ l.length ≤ 8)) (fun _ _ => True) (fun _ _ => by
      refine Ev.step (f := fun _ => some (decide (1 ≤ l.length ∧ l.length ≤ 8))) (fun k => ?_) ?_
      · simp only [spec_AreCrew.l0, l1In_eq, Option.bind_some]
        rw [if_neg (by omega), Option.some.injEq, decide_eq_decide]
        omega
      · simp only [crewFrom, Bool.true_and]
        exact Ev.now _) (fun _ i t h ht _ ih => by
      have ih := ih () trivial
      rw [prevId_succ h] at ih
      have st : ∀ k, spec_AreCrew.l0 (k + 1) l (i : Int) = if okM l[i] = true ∧ prevId l i < l[i].f0 then spec_AreCrew.l0 k l ((i + 1 : Nat) : Int) else some false := by
        intro k
        simp only [spec_AreCrew.l0, l1In_eq, Option.bind_some]
        rw [if_pos (by omega), if_pos (by omega), rdM h, wrapSucc (by omega)]
        unfold okM
        by_cases c0 : 1 ≤ l[i].f0 ∧ l[i].f0 ≤ 99
        · by_cases c3 : 0 ≤ l[i].f1 ∧ l[i].f1 ≤ 100
          · by_cases c4 : 1 ≤ l[i].f2 ∧ l[i].f2 ≤ 10
            · by_cases c1 : 0 < i
              · rw [← prevId_pos hl (by omega) c1]
                have w1 : wrap64 ((i : Int) - 1) = ((i - 1 : Nat) : Int) := by rw [wrapId (n := (i : Int) - 1) (by omega) (by omega)]; omega
                rw [w1]
                have g1 : (i : Int) > 0 := by omega
                have g2 : (0 : Int) ≤ ((i - 1 : Nat) : Int) := by omega
                have g3 : ((i - 1 : Nat) : Int) < (l.length : Int) := by omega
                by_cases c2 : prevId l i ≥ l[i].f0
                · have n2 : ¬ prevId l i < l[i].f0 := by omega
                  simp only [c0, c3, c4, and_self, decide_true, if_true, if_pos g1, if_pos g2, if_pos g3, if_pos c2, n2, and_false, if_false]
                · have n2 : prevId l i < l[i].f0 := by omega
                  simp only [c0, c3, c4, and_self, decide_true, if_true, if_pos g1, if_pos g2, if_pos g3, if_neg c2, n2]
              · have g1 : ¬ ((i : Int) > 0) := by omega
                have n2 : prevId l i < l[i].f0 := by
                  unfold prevId
                  rw [if_pos (by omega)]
                  omega
                simp only [c0, c3, c4, and_self, decide_true, if_true, if_neg g1, n2]
            · simp [c0, c3, c4]
          · simp [c0, c3]
        · simp [c0]
      refine Ev.step st ?_
      by_cases c : okM l[i] = true ∧ prevId l i < l[i].f0
      · refine evPos c ?_
        simp only [crewFrom, c.1, c.2, decide_true, Bool.true_and]
        exact ih
      · refine evNeg c ?_
        have e : crewFrom (prevId l i) (l[i] :: t) = false := by
          simp only [crewFrom]
          by_cases d : okM l[i] = true
          · have n : ¬ prevId l i < l[i].f0 := fun x => c ⟨d, x⟩
            simp [n]
          · simp [d]
        rw [e, Bool.false_and]
        exact Ev.now _)
    () trivial
  unfold spec_AreCrew.f
  exact key

def isParty (w h : Int) (c : List Int) (b f : Int) (l : List S95) (p : List Bool) : Bool := decide (openOk w h c b) && (areCrew l && (decide (0 ≤ f ∧ f ≤ 10000) && decide ((p.length : Int) ≤ 10)))
theorem impl_IsParty_ev (w h : Int) (c : List Int) (b f : Int) {l : List S95} (p : List Bool) (hl : l.length ≤ 100000000) : Ev (fun k => impl_IsParty.f k w h c b f l p) (isParty w h c b f l p) := by
  unfold impl_IsParty.f isParty
  refine Ev.bind (impl_IsOpen_ev w h c b) ?_
  cases decide (openOk w h c b)
  · exact Ev.now _
  refine evPos rfl (Ev.bind (impl_AreCrew_ev hl) ?_)
  cases areCrew l
  · exact Ev.now _
  simp only [inRange_eq, Option.bind_some, if_true, Bool.true_and]
  cases decide (0 ≤ f ∧ f ≤ 10000)
  · exact Ev.now _
  · exact Ev.now _
theorem spec_IsParty_ev (w h : Int) (c : List Int) (b f : Int) {l : List S95} (p : List Bool) (hl : l.length ≤ 100000000) : Ev (fun k => spec_IsParty.f k w h c b f l p) (isParty w h c b f l p) := by
  unfold spec_IsParty.f isParty
  refine Ev.bind (spec_IsOpen_ev w h c b) ?_
  cases decide (openOk w h c b)
  · exact Ev.now _
  refine evPos rfl (Ev.bind (spec_AreCrew_ev hl) ?_)
  cases areCrew l
  · exact Ev.now _
  simp only [l1In_eq, Option.bind_some, if_true, Bool.true_and]
  cases decide (0 ≤ f ∧ f ≤ 10000)
  · exact Ev.now _
  · exact Ev.now _

def absI (x : Int) : Int := if x < 0 then -x else x
/-- How far two cells are from each other. -/
def apart (w h : Int) (c : List Int) (a b : Int) : Int := if cellOk w h c a ∧ cellOk w h c b then absI (a % w - b % w) + absI (a / w - b / w) else -1
theorem modB {w a : Int} (hw : 1 ≤ w ∧ w ≤ 8) (ha : 0 ≤ a) (h1 : a ≤ 64) : Int.tmod a w = a % w ∧ Int.tdiv a w = a / w ∧ 0 ≤ a % w ∧ a % w < 8 ∧ 0 ≤ a / w ∧ a / w ≤ 64 := by
  have e0 := Int.emod_nonneg a (show w ≠ 0 by omega)
  have e1 := Int.emod_lt_of_pos a (show 0 < w by omega)
  have e2 := Int.ediv_nonneg ha (show 0 ≤ w by omega)
  have e3 := Int.ediv_le_self w ha
  exact ⟨Int.tmod_eq_emod_of_nonneg ha, Int.tdiv_eq_ediv_of_nonneg ha, e0, by omega, e2, by omega⟩

/-- The open cells beside the cell n of a land, in the order above, left, right, below. -/
def nearS (w : Int) (c : List Int) (n : Int) : List Int :=
  (if w ≤ n ∧ rd c (n - w) ≠ 2 then [n - w] else []) ++ (if 0 < n % w ∧ rd c (n - 1) ≠ 2 then [n - 1] else []) ++ (if n % w < w - 1 ∧ rd c (n + 1) ≠ 2 then [n + 1] else []) ++ (if n + w < (c.length : Int) ∧ rd c (n + w) ≠ 2 then [n + w] else [])
theorem side8 {w : Int} (hw : 1 ≤ w ∧ w ≤ 8) : w = 1 ∨ w = 2 ∨ w = 3 ∨ w = 4 ∨ w = 5 ∨ w = 6 ∨ w = 7 ∨ w = 8 := by omega
theorem rowMul {w h n : Int} (hw : 1 ≤ w ∧ w ≤ 8) (hn : n < w * h) (hm : n % w < w - 1) : n + 1 < w * h := by
  rcases side8 hw with rfl | rfl | rfl | rfl | rfl | rfl | rfl | rfl <;> omega
theorem apart_up {w n : Int} (hw : 1 ≤ w ∧ w ≤ 8) : absI (n % w - (n - w) % w) + absI (n / w - (n - w) / w) = 1 := by
  unfold absI
  rcases side8 hw with rfl | rfl | rfl | rfl | rfl | rfl | rfl | rfl <;> (repeat' split) <;> omega
theorem apart_down {w n : Int} (hw : 1 ≤ w ∧ w ≤ 8) : absI (n % w - (n + w) % w) + absI (n / w - (n + w) / w) = 1 := by
  unfold absI
  rcases side8 hw with rfl | rfl | rfl | rfl | rfl | rfl | rfl | rfl <;> (repeat' split) <;> omega
theorem apart_left {w n : Int} (hw : 1 ≤ w ∧ w ≤ 8) (h2 : 2 ≤ w) : absI (n % w - (n - 1) % w) + absI (n / w - (n - 1) / w) = 1 ↔ 0 < n % w := by
  unfold absI
  rcases side8 hw with rfl | rfl | rfl | rfl | rfl | rfl | rfl | rfl <;> (repeat' split) <;> omega
theorem apart_right {w n : Int} (hw : 1 ≤ w ∧ w ≤ 8) (h2 : 2 ≤ w) : absI (n % w - (n + 1) % w) + absI (n / w - (n + 1) / w) = 1 ↔ n % w < w - 1 := by
  unfold absI
  rcases side8 hw with rfl | rfl | rfl | rfl | rfl | rfl | rfl | rfl <;> (repeat' split) <;> omega
/-- Beside each other is: one apart. -/
theorem beside {w a b : Int} (hw : 1 ≤ w ∧ w ≤ 8) : absI (a % w - b % w) + absI (a / w - b / w) = 1 ↔ (b = a - w ∨ (b = a - 1 ∧ 0 < a % w) ∨ (b = a + 1 ∧ a % w < w - 1) ∨ b = a + w) := by
  unfold absI
  rcases side8 hw with rfl | rfl | rfl | rfl | rfl | rfl | rfl | rfl <;> (repeat' split) <;> omega
theorem mem_nearS {w h : Int} {c : List Int} (hl : landOk w h c) {a b : Int} (ha : cellOk w h c a) : b ∈ nearS w c a ↔ (openOk w h c b ∧ apart w h c a b = 1) := by
  have hw := hl.1.1
  have ha1 := ha.2.1
  have ha2 := ha.2.2
  have hc := hl.2.1
  have key : (openOk w h c b ∧ apart w h c a b = 1) ↔ ((0 ≤ b ∧ b < (c.length : Int)) ∧ rd c b ≠ 2) ∧ (b = a - w ∨ (b = a - 1 ∧ 0 < a % w) ∨ (b = a + 1 ∧ a % w < w - 1) ∨ b = a + w) := by
    constructor
    · rintro ⟨ho, h1⟩
      unfold apart at h1
      rw [if_pos ⟨ha, ho.1⟩] at h1
      exact ⟨⟨ho.1.2, ho.2⟩, (beside hw).1 h1⟩
    · rintro ⟨⟨hb, hr⟩, h1⟩
      have hb' : cellOk w h c b := ⟨hl, hb⟩
      unfold apart
      rw [if_pos ⟨ha, hb'⟩]
      exact ⟨⟨hb', hr⟩, (beside hw).2 h1⟩
  rw [key]
  unfold nearS
  simp only [List.mem_append]
  have m1 : ∀ (p : Prop) [Decidable p] (x : Int), b ∈ (if p then [x] else []) ↔ p ∧ b = x := by
    intro p _ x
    by_cases q : p
    · simp [q]
    · simp [q]
  rw [m1, m1, m1, m1]
  constructor
  · rintro (((⟨⟨p, q⟩, rfl⟩ | ⟨⟨p, q⟩, rfl⟩) | ⟨⟨p, q⟩, rfl⟩) | ⟨⟨p, q⟩, rfl⟩)
    · exact ⟨⟨⟨by omega, by omega⟩, q⟩, .inl rfl⟩
    · have h0 : 0 < a := by
        rcases Int.lt_or_le 0 a with x | x
        · exact x
        · obtain rfl : a = 0 := by omega
          simp at p
      exact ⟨⟨⟨by omega, by omega⟩, q⟩, .inr (.inl ⟨rfl, p⟩)⟩
    · have := rowMul (h := h) hw (by omega) p
      exact ⟨⟨⟨by omega, by omega⟩, q⟩, .inr (.inr (.inl ⟨rfl, p⟩))⟩
    · exact ⟨⟨⟨by omega, by omega⟩, q⟩, .inr (.inr (.inr rfl))⟩
  · rintro ⟨⟨⟨p0, p1⟩, q⟩, (rfl | ⟨rfl, r⟩ | ⟨rfl, r⟩ | rfl)⟩
    · exact .inl (.inl (.inl ⟨⟨by omega, q⟩, rfl⟩))
    · exact .inl (.inl (.inr ⟨⟨r, q⟩, rfl⟩))
    · exact .inl (.inr ⟨⟨r, q⟩, rfl⟩)
    · exact .inr ⟨⟨p1, q⟩, rfl⟩
theorem absI_neg (x : Int) : absI (-x) = absI x := by
  unfold absI
  repeat' split
  all_goals omega
theorem apart_comm (w h : Int) (c : List Int) (a b : Int) : apart w h c a b = apart w h c b a := by
  unfold apart
  by_cases q : cellOk w h c a ∧ cellOk w h c b
  · rw [if_pos q, if_pos q.symm, ← absI_neg (a % w - b % w), ← absI_neg (a / w - b / w), show -(a % w - b % w) = b % w - a % w by omega, show -(a / w - b / w) = b / w - a / w by omega]
  · rw [if_neg q, if_neg (fun x => q x.symm)]
theorem nearS_len (w : Int) (c : List Int) (n : Int) : (nearS w c n).length ≤ 4 := by
  unfold nearS
  simp only [List.length_append]
  have l1 : ∀ (p : Prop) [Decidable p] (x : Int), (if p then [x] else []).length ≤ 1 := by
    intro p _ x
    by_cases q : p
    · simp [q]
    · simp [q]
  have := l1 (w ≤ n ∧ rd c (n - w) ≠ 2) (n - w)
  have := l1 (0 < n % w ∧ rd c (n - 1) ≠ 2) (n - 1)
  have := l1 (n % w < w - 1 ∧ rd c (n + 1) ≠ 2) (n + 1)
  have := l1 (n + w < (c.length : Int) ∧ rd c (n + w) ≠ 2) (n + w)
  omega

theorem rd_set {d : List Int} {u x y : Int} (hu : 0 ≤ u) (hu1 : u < (d.length : Int)) (hx : 0 ≤ x) : rd (d.set u.toNat y) x = if x = u then y else rd d x := by
  unfold rd
  by_cases e : x = u
  · subst e
    rw [if_pos rfl, List.getD_eq_getElem?_getD, List.getElem?_set_self (by omega)]
    rfl
  · rw [if_neg e, List.getD_eq_getElem?_getD, List.getD_eq_getElem?_getD, List.getElem?_set_ne (by omega)]
/-- How many numbers are below 0. -/
def negs (d : List Int) : Nat := (d.filter (fun x => decide (x < 0))).length
theorem negs_set : ∀ (d : List Int) (i : Nat) (y : Int), i < d.length → d.getD i 0 < 0 → 0 ≤ y → negs (d.set i y) + 1 = negs d
  | [], i, y, h, _, _ => by simp at h
  | x :: t, 0, y, _, hx, hy => by
    have hx' : x < 0 := by simpa using hx
    unfold negs
    rw [List.set_cons_zero, List.filter_cons, List.filter_cons, if_neg (by rw [decide_eq_true_eq]; omega), if_pos (by rw [decide_eq_true_eq]; omega), List.length_cons]
  | x :: t, i + 1, y, h, hx, hy => by
    have ih := negs_set t i y (by simpa using h) (by simpa using hx) hy
    unfold negs at ih ⊢
    rw [List.set_cons_succ, List.filter_cons, List.filter_cons]
    by_cases q : x < 0
    · rw [if_pos (decide_eq_true q), if_pos (decide_eq_true q), List.length_cons, List.length_cons]
      omega
    · rw [if_neg (by rw [decide_eq_true_eq]; exact q), if_neg (by rw [decide_eq_true_eq]; exact q)]
      exact ih
theorem negs_push {d : List Int} {u y : Int} (hu : 0 ≤ u) (hu1 : u < (d.length : Int)) (hn : rd d u < 0) (hy : 0 ≤ y) : negs (d.set u.toNat y) + 1 = negs d := negs_set d u.toNat y (by omega) hn hy
/-- The neighbours of v are gone over: those not seen yet get a number and are queued. -/
def relax (v : Int) : List Int → List Int × List Int → List Int × List Int
  | [], s => s
  | u :: t, s => relax v t (if rd s.1 u < 0 then (s.1.set u.toNat (rd s.1 v + 1), s.2 ++ [u]) else s)
def bfs (adj : Int → List Int) : Nat → List Int → List Int → List Int
  | 0, d, _ => d
  | _ + 1, d, [] => d
  | m + 1, d, v :: t => bfs adj m (relax v (adj v) (d, t)).1 (relax v (adj v) (d, t)).2
structure SI (N m : Nat) (d q : List Int) : Prop where
  len : d.length = N
  mea : 2 * negs d + q.length ≤ m
  qok : ∀ x ∈ q, (0 ≤ x ∧ x < (N : Int)) ∧ 0 ≤ rd d x
  top : ∀ x, 0 ≤ x → x < (N : Int) → rd d x ≤ 1000 - (m : Int)
structure RI (N m : Nat) (v dv : Int) (s : List Int × List Int) : Prop where
  si : SI N m s.1 s.2
  rdv : rd s.1 v = dv
theorem RI.start {N m : Nat} {d t : List Int} {v : Int} (h : SI N (m + 1) d (v :: t)) : RI N m v (rd d v) (d, t) := by
  refine ⟨⟨h.len, ?_, fun x hx => h.qok x (List.mem_cons_of_mem _ hx), fun x h0 h1 => ?_⟩, rfl⟩
  · have := h.mea
    simp only [List.length_cons] at this
    show 2 * negs d + t.length ≤ m
    omega
  · have := h.top x h0 h1
    show rd d x ≤ _
    omega
theorem RI.push {N m : Nat} {v dv u : Int} {s : List Int × List Int} (h : RI N m v dv s) (hv : 0 ≤ v ∧ v < (N : Int)) (hd : 0 ≤ dv) (hb : dv + 1 ≤ 1000 - (m : Int)) (hu : 0 ≤ u ∧ u < (N : Int)) (hn : rd s.1 u < 0) : RI N m v dv (s.1.set u.toNat (dv + 1), s.2 ++ [u]) := by
  have hl : u < (s.1.length : Int) := by rw [h.si.len]; exact hu.2
  have e : ∀ x, 0 ≤ x → rd (s.1.set u.toNat (dv + 1)) x = if x = u then dv + 1 else rd s.1 x := fun x hx => rd_set hu.1 hl hx
  refine ⟨⟨by rw [List.length_set]; exact h.si.len, ?_, fun x hx => ?_, fun x h0 h1 => ?_⟩, ?_⟩
  · have := negs_push (y := dv + 1) hu.1 hl hn (by omega)
    have := h.si.mea
    simp only [List.length_append, List.length_cons, List.length_nil]
    omega
  · have hr : 0 ≤ x ∧ x < (N : Int) := by
      rcases List.mem_append.1 hx with q | q
      · exact (h.si.qok x q).1
      · rw [List.mem_singleton] at q
        rw [q]
        exact hu
    refine ⟨hr, ?_⟩
    show 0 ≤ rd (s.1.set u.toNat (dv + 1)) x
    rw [e x hr.1]
    split
    · omega
    · rename_i ne
      rcases List.mem_append.1 hx with q | q
      · exact (h.si.qok x q).2
      · rw [List.mem_singleton] at q
        exact absurd q ne
  · show rd (s.1.set u.toNat (dv + 1)) x ≤ _
    rw [e x h0]
    split
    · omega
    · exact h.si.top x h0 h1
  · show rd (s.1.set u.toNat (dv + 1)) v = dv
    rw [e v hv.1, if_neg (fun z => by have := h.rdv; rw [z] at this; omega)]
    exact h.rdv
theorem relax_RI {N m : Nat} {v dv : Int} (hv : 0 ≤ v ∧ v < (N : Int)) (hd : 0 ≤ dv) (hb : dv + 1 ≤ 1000 - (m : Int)) : ∀ (nb : List Int) (s : List Int × List Int), (∀ u ∈ nb, 0 ≤ u ∧ u < (N : Int)) → RI N m v dv s → RI N m v dv (relax v nb s)
  | [], s, _, h => h
  | u :: t, s, hn, h => by
    simp only [relax]
    refine relax_RI hv hd hb t _ (fun x hx => hn x (List.mem_cons_of_mem _ hx)) ?_
    by_cases q : rd s.1 u < 0
    · rw [if_pos q, h.rdv]
      exact h.push hv hd hb (hn u List.mem_cons_self) q
    · rw [if_neg q]
      exact h
/-! ### What the numbers tell -/
/-- k is at most n steps from a source. -/
def Wk (adj : Int → List Int) (Src : Int → Prop) : Nat → Int → Prop
  | 0, k => Src k
  | n + 1, k => Wk adj Src n k ∨ ∃ j, Wk adj Src n j ∧ k ∈ adj j
theorem Wk.more {adj : Int → List Int} {Src : Int → Prop} {k : Int} {n : Nat} (h : Wk adj Src n k) : ∀ {m : Nat}, n ≤ m → Wk adj Src m k
  | 0, hm => by
    obtain rfl : n = 0 := by omega
    exact h
  | m + 1, hm => by
    rcases Nat.lt_or_ge n (m + 1) with q | q
    · exact .inl (Wk.more h (by omega))
    · obtain rfl : n = m + 1 := by omega
      exact h
theorem Wk.one {adj : Int → List Int} {Src : Int → Prop} : ∀ {n : Nat} {k : Int}, Wk adj Src n k ↔ ∃ a, Src a ∧ Wk adj (fun x => x = a) n k
  | 0, k => ⟨fun h => ⟨k, h, rfl⟩, fun ⟨a, h, e⟩ => by obtain rfl : k = a := e; exact h⟩
  | n + 1, k => by
    constructor
    · rintro (h | ⟨j, h, hk⟩)
      · obtain ⟨a, ha, hw⟩ := Wk.one.1 h
        exact ⟨a, ha, .inl hw⟩
      · obtain ⟨a, ha, hw⟩ := Wk.one.1 h
        exact ⟨a, ha, .inr ⟨j, hw, hk⟩⟩
    · rintro ⟨a, ha, (h | ⟨j, h, hk⟩)⟩
      · exact .inl (Wk.one.2 ⟨a, ha, h⟩)
      · exact .inr ⟨j, Wk.one.2 ⟨a, ha, h⟩, hk⟩
structure Inv (adj : Int → List Int) (N : Nat) (Src : Int → Prop) (d q : List Int) : Prop where
  src : ∀ x, 0 ≤ x → x < (N : Int) → Src x → rd d x = 0
  snd : ∀ x, 0 ≤ x → x < (N : Int) → 0 ≤ rd d x → Wk adj Src (rd d x).toNat x
  srt : q.Pairwise (fun x y => rd d x ≤ rd d y)
  top : ∀ x, 0 ≤ x → x < (N : Int) → ∀ y ∈ q, rd d x ≤ rd d y + 1
  fin : ∀ x, 0 ≤ x → x < (N : Int) → 0 ≤ rd d x → ¬ x ∈ q → ∀ u ∈ adj x, 0 ≤ rd d u ∧ rd d u ≤ rd d x + 1
structure In1 (adj : Int → List Int) (N : Nat) (Src : Int → Prop) (v dv : Int) (s : List Int × List Int) : Prop where
  src : ∀ x, 0 ≤ x → x < (N : Int) → Src x → rd s.1 x = 0
  snd : ∀ x, 0 ≤ x → x < (N : Int) → 0 ≤ rd s.1 x → Wk adj Src (rd s.1 x).toNat x
  srt : s.2.Pairwise (fun x y => rd s.1 x ≤ rd s.1 y)
  top : ∀ x, 0 ≤ x → x < (N : Int) → rd s.1 x ≤ dv + 1
  low : ∀ y ∈ s.2, dv ≤ rd s.1 y
  fin : ∀ x, 0 ≤ x → x < (N : Int) → 0 ≤ rd s.1 x → ¬ x ∈ s.2 → x ≠ v → ∀ u ∈ adj x, 0 ≤ rd s.1 u ∧ rd s.1 u ≤ rd s.1 x + 1
theorem In1.push {adj : Int → List Int} {N m : Nat} {Src : Int → Prop} {v dv u : Int} {s : List Int × List Int} (ha : ∀ x, 0 ≤ x → x < (N : Int) → ∀ y ∈ adj x, 0 ≤ y ∧ y < (N : Int)) (hr : RI N m v dv s) (h : In1 adj N Src v dv s) (hv : 0 ≤ v ∧ v < (N : Int)) (hd : 0 ≤ dv) (hu : u ∈ adj v) (hn : rd s.1 u < 0) : In1 adj N Src v dv (s.1.set u.toNat (dv + 1), s.2 ++ [u]) := by
  have hur := ha v hv.1 hv.2 u hu
  have hl : u < (s.1.length : Int) := by rw [hr.si.len]; exact hur.2
  have e : ∀ x, 0 ≤ x → rd (s.1.set u.toNat (dv + 1)) x = if x = u then dv + 1 else rd s.1 x := fun x hx => rd_set hur.1 hl hx
  have eu : rd (s.1.set u.toNat (dv + 1)) u = dv + 1 := by rw [e u hur.1, if_pos rfl]
  have ne : ∀ x, 0 ≤ x → 0 ≤ rd s.1 x → rd (s.1.set u.toNat (dv + 1)) x = rd s.1 x := by
    intro x hx h0
    rw [e x hx, if_neg]
    rintro rfl
    omega
  have q0 : ∀ x ∈ s.2, 0 ≤ x ∧ 0 ≤ rd s.1 x := fun x hx => ⟨(hr.si.qok x hx).1.1, (hr.si.qok x hx).2⟩
  refine ⟨fun x h0 h1 hs => ?_, fun x h0 h1 hx => ?_, ?_, fun x h0 h1 => ?_, fun y hy => ?_, fun x h0 h1 hx hq hxv y hy => ?_⟩
  · have := h.src x h0 h1 hs
    show rd (s.1.set u.toNat (dv + 1)) x = 0
    rw [ne x h0 (by omega), this]
  · show Wk adj Src (rd (s.1.set u.toNat (dv + 1)) x).toNat x
    by_cases c : x = u
    · subst c
      rw [eu]
      have wv := h.snd v hv.1 hv.2 (by rw [hr.rdv]; exact hd)
      rw [hr.rdv] at wv
      rw [show (dv + 1).toNat = dv.toNat + 1 by omega]
      exact .inr ⟨v, wv, hu⟩
    · have e1 : rd (s.1.set u.toNat (dv + 1)) x = rd s.1 x := by rw [e x h0, if_neg c]
      have hx' : 0 ≤ rd (s.1.set u.toNat (dv + 1)) x := hx
      rw [e1] at hx' ⊢
      exact h.snd x h0 h1 hx'
  · show (s.2 ++ [u]).Pairwise (fun x y => rd (s.1.set u.toNat (dv + 1)) x ≤ rd (s.1.set u.toNat (dv + 1)) y)
    rw [List.pairwise_append]
    refine ⟨h.srt.imp_of_mem (fun {a b} haq hbq hab => ?_), List.pairwise_singleton _ _, fun a haq b hb => ?_⟩
    · rw [ne a (q0 a haq).1 (q0 a haq).2, ne b (q0 b hbq).1 (q0 b hbq).2]
      exact hab
    · rw [List.mem_singleton] at hb
      rw [hb, eu, ne a (q0 a haq).1 (q0 a haq).2]
      exact h.top a (q0 a haq).1 (hr.si.qok a haq).1.2
  · show rd (s.1.set u.toNat (dv + 1)) x ≤ dv + 1
    rw [e x h0]
    split
    · omega
    · exact h.top x h0 h1
  · show dv ≤ rd (s.1.set u.toNat (dv + 1)) y
    rcases List.mem_append.1 hy with q | q
    · rw [ne y (q0 y q).1 (q0 y q).2]
      exact h.low y q
    · rw [List.mem_singleton] at q
      rw [q, eu]
      omega
  · show 0 ≤ rd (s.1.set u.toNat (dv + 1)) y ∧ rd (s.1.set u.toNat (dv + 1)) y ≤ rd (s.1.set u.toNat (dv + 1)) x + 1
    have hq1 : ¬ x ∈ s.2 := fun z => hq (List.mem_append_left _ z)
    have hxu : x ≠ u := fun z => hq (List.mem_append_right _ (by rw [List.mem_singleton]; exact z))
    have e1 : rd (s.1.set u.toNat (dv + 1)) x = rd s.1 x := by rw [e x h0, if_neg hxu]
    have hx' : 0 ≤ rd (s.1.set u.toNat (dv + 1)) x := hx
    rw [e1] at hx' ⊢
    have old := h.fin x h0 h1 hx' hq1 hxv y hy
    rw [ne y (ha x h0 h1 y hy).1 old.1]
    exact old
theorem relax_keep {N m : Nat} {v dv : Int} (hv : 0 ≤ v ∧ v < (N : Int)) (hd : 0 ≤ dv) (hb : dv + 1 ≤ 1000 - (m : Int)) : ∀ (nb : List Int) (s : List Int × List Int), (∀ u ∈ nb, 0 ≤ u ∧ u < (N : Int)) → RI N m v dv s → ∀ x, 0 ≤ x → 0 ≤ rd s.1 x → rd (relax v nb s).1 x = rd s.1 x
  | [], s, _, _, _, _, _ => rfl
  | u :: t, s, hn, h, x, h0, hx => by
    simp only [relax]
    have hu := hn u List.mem_cons_self
    by_cases q : rd s.1 u < 0
    · rw [if_pos q, h.rdv]
      have e := rd_set (y := dv + 1) hu.1 (show u < (s.1.length : Int) by rw [h.si.len]; exact hu.2) h0
      rw [if_neg (fun z => by rw [z] at hx; omega)] at e
      rw [relax_keep hv hd hb t _ (fun z hz => hn z (List.mem_cons_of_mem _ hz)) (h.push hv hd hb hu q) x h0 (by show 0 ≤ rd (s.1.set u.toNat (dv + 1)) x; rw [e]; exact hx)]
      exact e
    · rw [if_neg q]
      exact relax_keep hv hd hb t s (fun z hz => hn z (List.mem_cons_of_mem _ hz)) h x h0 hx
theorem relax_done {N m : Nat} {v dv : Int} (hv : 0 ≤ v ∧ v < (N : Int)) (hd : 0 ≤ dv) (hb : dv + 1 ≤ 1000 - (m : Int)) : ∀ (nb : List Int) (s : List Int × List Int), (∀ u ∈ nb, 0 ≤ u ∧ u < (N : Int)) → RI N m v dv s → ∀ x ∈ nb, 0 ≤ rd (relax v nb s).1 x
  | [], _, _, _, x, hx => by cases hx
  | u :: t, s, hn, h, x, hx => by
    have hu := hn u List.mem_cons_self
    have ht : ∀ z ∈ t, 0 ≤ z ∧ z < (N : Int) := fun z hz => hn z (List.mem_cons_of_mem _ hz)
    simp only [relax]
    by_cases q : rd s.1 u < 0
    · rw [if_pos q, h.rdv]
      have hp := h.push hv hd hb hu q
      rcases List.mem_cons.1 hx with rfl | hx
      · have e := rd_set (y := dv + 1) hu.1 (show x < (s.1.length : Int) by rw [h.si.len]; exact hu.2) hu.1
        rw [if_pos rfl] at e
        have := relax_keep hv hd hb t _ ht hp x hu.1 (by show 0 ≤ rd (s.1.set x.toNat (dv + 1)) x; rw [e]; omega)
        rw [this]
        show 0 ≤ rd (s.1.set x.toNat (dv + 1)) x
        rw [e]
        omega
      · exact relax_done hv hd hb t _ ht hp x hx
    · rw [if_neg q]
      rcases List.mem_cons.1 hx with rfl | hx
      · rw [relax_keep hv hd hb t s ht h x hu.1 (by omega)]
        omega
      · exact relax_done hv hd hb t s ht h x hx
theorem relax_In1 {adj : Int → List Int} {N m : Nat} {Src : Int → Prop} {v dv : Int} (ha : ∀ x, 0 ≤ x → x < (N : Int) → ∀ y ∈ adj x, 0 ≤ y ∧ y < (N : Int)) (hv : 0 ≤ v ∧ v < (N : Int)) (hd : 0 ≤ dv) (hb : dv + 1 ≤ 1000 - (m : Int)) : ∀ (nb : List Int) (s : List Int × List Int), (∀ u ∈ nb, u ∈ adj v) → RI N m v dv s → In1 adj N Src v dv s → In1 adj N Src v dv (relax v nb s)
  | [], s, _, _, h => h
  | u :: t, s, hn, hr, h => by
    simp only [relax]
    have hu := hn u List.mem_cons_self
    by_cases q : rd s.1 u < 0
    · rw [if_pos q, hr.rdv]
      exact relax_In1 ha hv hd hb t _ (fun x hx => hn x (List.mem_cons_of_mem _ hx)) (hr.push hv hd hb (ha v hv.1 hv.2 u hu) q) (h.push ha hr hv hd hu q)
    · rw [if_neg q]
      exact relax_In1 ha hv hd hb t s (fun x hx => hn x (List.mem_cons_of_mem _ hx)) hr h
theorem bfs_step {adj : Int → List Int} {N m : Nat} {Src : Int → Prop} {d t : List Int} {v : Int} (ha : ∀ x, 0 ≤ x → x < (N : Int) → ∀ y ∈ adj x, 0 ≤ y ∧ y < (N : Int)) (hs : SI N (m + 1) d (v :: t)) (h : Inv adj N Src d (v :: t)) :
    SI N m (relax v (adj v) (d, t)).1 (relax v (adj v) (d, t)).2 ∧ Inv adj N Src (relax v (adj v) (d, t)).1 (relax v (adj v) (d, t)).2 := by
  have hv := (hs.qok v List.mem_cons_self).1
  have hd := (hs.qok v List.mem_cons_self).2
  have hb : rd d v + 1 ≤ 1000 - (m : Int) := by
    have := hs.top v hv.1 hv.2
    omega
  have r0 := RI.start hs
  have hn := ha v hv.1 hv.2
  have r1 := relax_RI hv hd hb (adj v) (d, t) hn r0
  have dn := relax_done hv hd hb (adj v) (d, t) hn r0
  have srt := List.pairwise_cons.1 h.srt
  have i0 : In1 adj N Src v (rd d v) (d, t) := ⟨h.src, h.snd, srt.2, fun x h0 h1 => h.top x h0 h1 v List.mem_cons_self, fun y hy => srt.1 y hy, fun x h0 h1 hx hq hxv => h.fin x h0 h1 hx (fun z => by
    rcases List.mem_cons.1 z with e | e
    · exact hxv e
    · exact hq e)⟩
  have i1 := relax_In1 ha hv hd hb (adj v) (d, t) (fun _ hu => hu) r0 i0
  refine ⟨r1.si, i1.src, i1.snd, i1.srt, fun x h0 h1 y hy => ?_, fun x h0 h1 hx hq u hu => ?_⟩
  · have := i1.top x h0 h1
    have := i1.low y hy
    omega
  · by_cases c : x = v
    · subst c
      have := i1.top u (hn u hu).1 (hn u hu).2
      rw [r1.rdv]
      exact ⟨dn u hu, this⟩
    · exact i1.fin x h0 h1 hx hq c u hu
theorem bfs_inv {adj : Int → List Int} {N : Nat} {Src : Int → Prop} (ha : ∀ x, 0 ≤ x → x < (N : Int) → ∀ y ∈ adj x, 0 ≤ y ∧ y < (N : Int)) : ∀ (m : Nat) (d q : List Int), SI N m d q → Inv adj N Src d q → Inv adj N Src (bfs adj m d q) [] ∧ (bfs adj m d q).length = N ∧ ∀ x, 0 ≤ x → x < (N : Int) → rd (bfs adj m d q) x ≤ 1000
  | 0, d, q, hs, h => by
    have : q = [] := List.length_eq_zero_iff.1 (by have := hs.mea; omega)
    subst this
    exact ⟨h, hs.len, fun x h0 h1 => by have := hs.top x h0 h1; show rd d x ≤ 1000; omega⟩
  | m + 1, d, [], hs, h => ⟨h, hs.len, fun x h0 h1 => by have := hs.top x h0 h1; show rd d x ≤ 1000; omega⟩
  | m + 1, d, v :: t, hs, h => by
    obtain ⟨s1, h1⟩ := bfs_step ha hs h
    exact bfs_inv ha m _ _ s1 h1
/-- The numbers at the end: at most n just where n steps are enough. -/
theorem Inv.tells {adj : Int → List Int} {N : Nat} {Src : Int → Prop} {D : List Int} (ha : ∀ x, 0 ≤ x → x < (N : Int) → ∀ y ∈ adj x, 0 ≤ y ∧ y < (N : Int)) (hsrc : ∀ x, Src x → 0 ≤ x ∧ x < (N : Int)) (h : Inv adj N Src D []) : ∀ (n : Nat) (k : Int), 0 ≤ k → k < (N : Int) → ((0 ≤ rd D k ∧ rd D k ≤ (n : Int)) ↔ Wk adj Src n k) := by
  have up : ∀ (n : Nat) (k : Int), Wk adj Src n k → (0 ≤ k ∧ k < (N : Int)) ∧ 0 ≤ rd D k ∧ rd D k ≤ (n : Int) := by
    intro n
    induction n with
    | zero =>
      intro k hk
      have hr := hsrc k hk
      have := h.src k hr.1 hr.2 hk
      exact ⟨hr, by omega, by omega⟩
    | succ n ih =>
      rintro k (hk | ⟨j, hj, hk⟩)
      · have := ih k hk
        exact ⟨this.1, this.2.1, by have := this.2.2; omega⟩
      · have hj' := ih j hj
        have := h.fin j hj'.1.1 hj'.1.2 hj'.2.1 (by simp) k hk
        exact ⟨ha j hj'.1.1 hj'.1.2 k hk, this.1, by have := hj'.2.2; omega⟩
  intro n k h0 h1
  exact ⟨fun hk => (h.snd k h0 h1 hk.1).more (by omega), fun hk => (up n k hk).2⟩

theorem adj_in {w h : Int} {c : List Int} (hl : landOk w h c) : ∀ x, 0 ≤ x → x < (c.length : Int) → ∀ y ∈ nearS w c x, 0 ≤ y ∧ y < (c.length : Int) := fun x h0 h1 y hy => ((mem_nearS hl ⟨hl, h0, h1⟩).1 hy).1.1.2
/-- Where one begins: the open cells of a list, each once. -/
def seeds (w h : Int) (c : List Int) : List Int → List Int × List Int → List Int × List Int
  | [], s => s
  | a :: t, s => seeds w h c t (if openOk w h c a ∧ rd s.1 a < 0 then (s.1.set a.toNat 0, s.2 ++ [a]) else s)
structure Sd (w h : Int) (c : List Int) (S : Int → Prop) (s : List Int × List Int) : Prop where
  len : s.1.length = c.length
  mea : 2 * negs s.1 + s.2.length ≤ 2 * c.length
  all : ∀ x, 0 ≤ x → x < (c.length : Int) → (rd s.1 x = 0 ∧ x ∈ s.2 ∧ S x) ∨ (rd s.1 x = -1 ∧ ¬ x ∈ s.2)
  rng : ∀ x ∈ s.2, 0 ≤ x ∧ x < (c.length : Int)
theorem Sd.push {w h : Int} {c : List Int} {S : Int → Prop} {s : List Int × List Int} (hs : Sd w h c S s) {a : Int} (ho : openOk w h c a) (hS : S a) (hn : rd s.1 a < 0) : Sd w h c S (s.1.set a.toNat 0, s.2 ++ [a]) := by
  have hr := ho.1.2
  have hl : a < (s.1.length : Int) := by rw [hs.len]; exact hr.2
  have e : ∀ x, 0 ≤ x → rd (s.1.set a.toNat 0) x = if x = a then 0 else rd s.1 x := fun x hx => rd_set hr.1 hl hx
  refine ⟨by rw [List.length_set]; exact hs.len, ?_, fun x h0 h1 => ?_, fun x hx => ?_⟩
  · have := negs_push (y := 0) hr.1 hl hn (by omega)
    have := hs.mea
    simp only [List.length_append, List.length_cons, List.length_nil]
    omega
  · show (rd (s.1.set a.toNat 0) x = 0 ∧ x ∈ s.2 ++ [a] ∧ S x) ∨ (rd (s.1.set a.toNat 0) x = -1 ∧ ¬ x ∈ s.2 ++ [a])
    rw [e x h0, List.mem_append, List.mem_singleton]
    by_cases q : x = a
    · rw [if_pos q]
      exact .inl ⟨rfl, .inr q, by rw [q]; exact hS⟩
    · rw [if_neg q]
      rcases hs.all x h0 h1 with p | p
      · exact .inl ⟨p.1, .inl p.2.1, p.2.2⟩
      · exact .inr ⟨p.1, fun z => z.elim p.2 q⟩
  · rcases List.mem_append.1 hx with q | q
    · exact hs.rng x q
    · rw [List.mem_singleton] at q
      rw [q]
      exact hr
theorem seeds_Sd {w h : Int} {c : List Int} {S : Int → Prop} : ∀ (l : List Int) (s : List Int × List Int), (∀ a ∈ l, openOk w h c a → S a) → Sd w h c S s → Sd w h c S (seeds w h c l s) ∧ (∀ x, 0 ≤ x → rd s.1 x = 0 → rd (seeds w h c l s).1 x = 0) ∧ ∀ a ∈ l, openOk w h c a → rd (seeds w h c l s).1 a = 0
  | [], s, _, h => ⟨h, fun _ _ z => z, fun a ha => by cases ha⟩
  | a :: t, s, hS, hs => by
    simp only [seeds]
    by_cases q : openOk w h c a ∧ rd s.1 a < 0
    · rw [if_pos q]
      have hr := q.1.1.2
      have e : ∀ x, 0 ≤ x → rd (s.1.set a.toNat 0) x = if x = a then 0 else rd s.1 x := fun x hx => rd_set hr.1 (by rw [hs.len]; exact hr.2) hx
      obtain ⟨r0, r1, r2⟩ := seeds_Sd t _ (fun b hb => hS b (List.mem_cons_of_mem _ hb)) (hs.push q.1 (hS a List.mem_cons_self q.1) q.2)
      refine ⟨r0, fun x h0 hx => r1 x h0 ?_, fun b hb ho => ?_⟩
      · show rd (s.1.set a.toNat 0) x = 0
        rw [e x h0]
        split
        · rfl
        · exact hx
      · rcases List.mem_cons.1 hb with rfl | hb
        · refine r1 b hr.1 ?_
          show rd (s.1.set b.toNat 0) b = 0
          rw [e b hr.1, if_pos rfl]
        · exact r2 b hb ho
    · rw [if_neg q]
      obtain ⟨r0, r1, r2⟩ := seeds_Sd t s (fun b hb => hS b (List.mem_cons_of_mem _ hb)) hs
      refine ⟨r0, r1, fun b hb ho => ?_⟩
      rcases List.mem_cons.1 hb with rfl | hb
      · refine r1 b ho.1.2.1 ?_
        rcases hs.all b ho.1.2.1 ho.1.2.2 with p | p
        · exact p.1
        · exact absurd ⟨ho, by omega⟩ q
      · exact r2 b hb ho
def blank (c : List Int) : List Int × List Int := (List.replicate c.length (-1), [])
theorem blank_rd (c : List Int) (x : Int) (h0 : 0 ≤ x) (h1 : x < (c.length : Int)) : rd (blank c).1 x = -1 := by
  unfold rd blank
  rw [List.getD_eq_getElem?_getD, List.getElem?_replicate, if_pos (by omega)]
  rfl
theorem blank_Sd (w h : Int) (c : List Int) (S : Int → Prop) : Sd w h c S (blank c) := by
  refine ⟨by simp [blank], ?_, fun x h0 h1 => .inr ⟨blank_rd c x h0 h1, by simp [blank]⟩, fun x hx => by simp [blank] at hx⟩
  have : negs (blank c).1 ≤ (blank c).1.length := List.length_filter_le _ _
  simp only [blank, List.length_replicate, List.length_nil] at this ⊢
  omega
/-- The steps from the open cells of a list to each cell, -1 where there is no way. -/
def distS (w h : Int) (c : List Int) (l : List Int) : List Int := bfs (nearS w c) 200 (seeds w h c l (blank c)).1 (seeds w h c l (blank c)).2
def srcS (w h : Int) (c l : List Int) (a : Int) : Prop := a ∈ l ∧ openOk w h c a
theorem seeds_SI {w h : Int} {c : List Int} (hl : landOk w h c) (l : List Int) : SI c.length 200 (seeds w h c l (blank c)).1 (seeds w h c l (blank c)).2 := by
  obtain ⟨r0, -, -⟩ := seeds_Sd (S := srcS w h c l) l (blank c) (fun a ha ho => ⟨ha, ho⟩) (blank_Sd w h c _)
  have := hl.len
  refine ⟨r0.len, by have := r0.mea; omega, fun x hx => ⟨r0.rng x hx, ?_⟩, fun x h0 h1 => ?_⟩
  · rcases r0.all x (r0.rng x hx).1 (r0.rng x hx).2 with p | p
    · omega
    · exact absurd hx p.2
  · rcases r0.all x h0 h1 with p | p <;> omega
theorem seeds_Inv {w h : Int} {c : List Int} (hl : landOk w h c) (l : List Int) : Inv (nearS w c) c.length (srcS w h c l) (seeds w h c l (blank c)).1 (seeds w h c l (blank c)).2 := by
  obtain ⟨r0, -, r2⟩ := seeds_Sd (S := srcS w h c l) l (blank c) (fun a ha ho => ⟨ha, ho⟩) (blank_Sd w h c _)
  have z : ∀ x ∈ (seeds w h c l (blank c)).2, rd (seeds w h c l (blank c)).1 x = 0 := by
    intro x hx
    rcases r0.all x (r0.rng x hx).1 (r0.rng x hx).2 with p | p
    · exact p.1
    · exact absurd hx p.2
  refine ⟨fun x h0 h1 hs => r2 x hs.1 hs.2, fun x h0 h1 hx => ?_, ?_, fun x h0 h1 y hy => ?_, fun x h0 h1 hx hq => ?_⟩
  · rcases r0.all x h0 h1 with p | p
    · rw [p.1]
      exact p.2.2
    · omega
  · refine List.Pairwise.imp_of_mem (R := fun _ _ => True) (fun {a b} ha hb _ => ?_) (List.pairwise_of_forall (fun _ _ => trivial))
    rw [z a ha, z b hb]
    exact Int.le_refl _
  · rw [z y hy]
    rcases r0.all x h0 h1 with p | p <;> omega
  · rcases r0.all x h0 h1 with p | p
    · exact absurd p.2.1 hq
    · omega
theorem dist_tells {w h : Int} {c : List Int} (hl : landOk w h c) (l : List Int) (n : Nat) (k : Int) (h0 : 0 ≤ k) (h1 : k < (c.length : Int)) : (0 ≤ rd (distS w h c l) k ∧ rd (distS w h c l) k ≤ (n : Int)) ↔ Wk (nearS w c) (srcS w h c l) n k :=
  (bfs_inv (adj_in hl) 200 _ _ (seeds_SI hl l) (seeds_Inv hl l)).1.tells (adj_in hl) (fun x hx => hx.2.1.2) n k h0 h1
theorem dist_len {w h : Int} {c : List Int} (hl : landOk w h c) (l : List Int) : (distS w h c l).length = c.length := (bfs_inv (adj_in hl) 200 _ _ (seeds_SI hl l) (seeds_Inv hl l)).2.1
theorem dist_top {w h : Int} {c : List Int} (hl : landOk w h c) (l : List Int) (k : Int) (h0 : 0 ≤ k) (h1 : k < (c.length : Int)) : rd (distS w h c l) k ≤ 1000 := (bfs_inv (adj_in hl) 200 _ _ (seeds_SI hl l) (seeds_Inv hl l)).2.2 k h0 h1
/-- From one open cell. -/
theorem seeds_one {w h : Int} {c : List Int} {a : Int} (ho : openOk w h c a) : seeds w h c [a] (blank c) = ((blank c).1.set a.toNat 0, [a]) := by
  simp only [seeds]
  rw [if_pos ⟨ho, by rw [blank_rd c a ho.1.2.1 ho.1.2.2]; omega⟩]
  rfl

/-- The least number of steps from one cell to another, -1 where there is no way. -/
def daysS (w h : Int) (c : List Int) (a b : Int) : Int := if openOk w h c a ∧ openOk w h c b then rd (distS w h c [a]) b else -1

theorem impl_Apart_ev (w h : Int) (c : List Int) (a b : Int) : Ev (fun k => impl_Apart.f k w h c a b) (apart w h c a b) := by
  have no : ¬ (cellOk w h c a ∧ cellOk w h c b) → Ev (fun k => impl_Apart.j0 k a b true w h c) (apart w h c a b) := by
    intro q
    unfold apart
    rw [if_neg q]
    refine Ev.step (f := fun _ => some (-1)) (fun k => ?_) (Ev.now _)
    simp only [impl_Apart.j0, if_true]
  unfold impl_Apart.f
  refine Ev.bind (impl_IsCell_ev w h c a) ?_
  by_cases qa : cellOk w h c a
  · refine evPos (decide_eq_true qa) (Ev.bind (impl_IsCell_ev w h c b) ?_)
    by_cases qb : cellOk w h c b
    · rw [decide_eq_true qb]
      unfold apart
      rw [if_pos ⟨qa, qb⟩]
      have hw := qa.1.1.1
      have hl := qa.1.len
      have ma := modB hw qa.2.1 (by have := qa.2.2; omega)
      have mb := modB hw qb.2.1 (by have := qb.2.2; omega)
      refine Ev.step (f := fun _ => some (absI (a % w - b % w) + absI (a / w - b / w))) (fun k => ?_) (Ev.now _)
      simp only [impl_Apart.j0, Bool.not_true, Bool.false_eq_true, if_false, impl_size.f, Option.bind_some, ma.1, mb.1, ma.2.1, mb.2.1]
      rw [if_neg (by omega), wrapId (n := a / w) (by omega) (by omega), wrapId (n := b / w) (by omega) (by omega), wrapId (n := a % w - b % w) (by omega) (by omega), wrapId (n := a / w - b / w) (by omega) (by omega), wrapId (n := -(a % w - b % w)) (by omega) (by omega), wrapId (n := -(a / w - b / w)) (by omega) (by omega)]
      have e0 : mx (a % w - b % w) (-(a % w - b % w)) = absI (a % w - b % w) := by unfold mx absI; repeat' split; all_goals omega
      have e1 : mx (a / w - b / w) (-(a / w - b / w)) = absI (a / w - b / w) := by unfold mx absI; repeat' split; all_goals omega
      rw [e0, e1, wrapId]
      · unfold absI
        repeat' split
        all_goals omega
      · unfold absI
        repeat' split
        all_goals omega
    · rw [decide_eq_false qb]
      exact no (fun x => qb x.2)
  · exact evNeg (by rw [decide_eq_true_eq]; exact qa) (no (fun x => qa x.1))

theorem compact_asc {l : List Int} (hl : l.Pairwise (· < ·)) : Go.Lib.compact l = l := by
  refine Go.Lib.compact_all l (fun j hj => ?_)
  rcases Nat.eq_zero_or_pos j with rfl | h0
  · simp [Go.Lib.keeps]
  · have h1 : j - 1 < l.length := by omega
    have := List.pairwise_iff_getElem.1 hl (j - 1) j h1 hj (by omega)
    simp only [Go.Lib.keeps, decide_eq_true_eq]
    right
    simp only [List.getElem!_toArray]
    rw [getElem!_pos l j hj, getElem!_pos l (j - 1) h1]
    omega
theorem compact2 (a : Int) : Go.Lib.compact [a, a] = [a] := by
  have k0 : Go.Lib.keeps #[a, a] 0 = true := by simp [Go.Lib.keeps]
  have k1 : Go.Lib.keeps #[a, a] 1 = false := by simp [Go.Lib.keeps]
  show Go.Lib.compactUpTo #[a, a] (0 + 1 + 1) = _
  rw [Go.Lib.compactUpTo_succ, Go.Lib.compactUpTo_succ, k0, k1]
  simp [Go.Lib.compactUpTo]
theorem compact4 {a b : Int} (h : b ≠ a) : Go.Lib.compact [a, a, b, b] = [a, b] := by
  have k0 : Go.Lib.keeps #[a, a, b, b] 0 = true := by simp [Go.Lib.keeps]
  have k1 : Go.Lib.keeps #[a, a, b, b] 1 = false := by simp [Go.Lib.keeps]
  have k2 : Go.Lib.keeps #[a, a, b, b] 2 = true := by simp [Go.Lib.keeps, h]
  have k3 : Go.Lib.keeps #[a, a, b, b] 3 = false := by simp [Go.Lib.keeps]
  show Go.Lib.compactUpTo #[a, a, b, b] (0 + 1 + 1 + 1 + 1) = _
  rw [Go.Lib.compactUpTo_succ, Go.Lib.compactUpTo_succ, Go.Lib.compactUpTo_succ, Go.Lib.compactUpTo_succ, k0, k1, k2, k3]
  simp [Go.Lib.compactUpTo]
def beP (w h : Int) (c : List Int) (n m : Int) : Bool := decide (openOk w h c m ∧ apart w h c n m = 1)
theorem near_compact {w h : Int} {c : List Int} {n : Int} (hn : cellOk w h c n) : Go.Lib.compact ([n - w, n - 1, n + 1, n + w].filter (beP w h c n)) = nearS w c n := by
  have hw := hn.1.1.1
  have hc := hn.1.2.1
  have hlen := hn.1.len
  have h0 := hn.2.1
  have h1 := hn.2.2
  have key : ∀ m, beP w h c n m = true ↔ (0 ≤ m ∧ m < (c.length : Int)) ∧ rd c m ≠ 2 ∧ (m = n - w ∨ (m = n - 1 ∧ 0 < n % w) ∨ (m = n + 1 ∧ n % w < w - 1) ∨ m = n + w) := by
    intro m
    unfold beP
    rw [decide_eq_true_eq, ← beside hw]
    constructor
    · rintro ⟨ho, ha⟩
      unfold apart at ha
      rw [if_pos ⟨hn, ho.1⟩] at ha
      exact ⟨ho.1.2, ho.2, ha⟩
    · rintro ⟨hm, hr, ha⟩
      have hm' : cellOk w h c m := ⟨hn.1, hm⟩
      refine ⟨⟨hm', hr⟩, ?_⟩
      unfold apart
      rw [if_pos ⟨hn, hm'⟩]
      exact ha
  by_cases hw1 : w = 1
  · subst hw1
    have e0 : beP 1 h c n (n - 1) = decide ((1 : Int) ≤ n ∧ rd c (n - 1) ≠ 2) := by
      rw [Bool.eq_iff_iff, key, decide_eq_true_eq]
      constructor
      · rintro ⟨a, b, _⟩
        exact ⟨by omega, b⟩
      · rintro ⟨a, b⟩
        exact ⟨by omega, b, .inl rfl⟩
    have e1 : beP 1 h c n (n + 1) = decide (n + 1 < (c.length : Int) ∧ rd c (n + 1) ≠ 2) := by
      rw [Bool.eq_iff_iff, key, decide_eq_true_eq]
      constructor
      · rintro ⟨a, b, _⟩
        exact ⟨by omega, b⟩
      · rintro ⟨a, b⟩
        exact ⟨by omega, b, .inr (.inr (.inr rfl))⟩
    have ne : n + 1 ≠ n - 1 := by omega
    unfold nearS
    rw [if_neg (show ¬ (0 < n % 1 ∧ rd c (n - 1) ≠ 2) by omega), if_neg (show ¬ (n % 1 < 1 - 1 ∧ rd c (n + 1) ≠ 2) by omega), List.append_nil, List.append_nil]
    simp only [List.filter_cons, List.filter_nil, e0, e1, decide_eq_true_eq]
    by_cases p : (1 : Int) ≤ n ∧ rd c (n - 1) ≠ 2
    · by_cases q : n + 1 < (c.length : Int) ∧ rd c (n + 1) ≠ 2
      · rw [if_pos p, if_pos p, if_pos q, if_pos q, if_pos p, compact4 ne]
        rfl
      · rw [if_pos p, if_pos p, if_neg q, if_neg q, if_pos p, compact2]
        rfl
    · by_cases q : n + 1 < (c.length : Int) ∧ rd c (n + 1) ≠ 2
      · rw [if_neg p, if_neg p, if_pos q, if_pos q, if_neg p, compact2]
        rfl
      · rw [if_neg p, if_neg p, if_neg q, if_neg q, if_neg p]
        rfl
  · have hw2 : 2 ≤ w := by omega
    rw [compact_asc (List.Pairwise.filter _ (by simp; omega))]
    have f0 : beP w h c n (n - w) = decide (w ≤ n ∧ rd c (n - w) ≠ 2) := by
      rw [Bool.eq_iff_iff, key, decide_eq_true_eq]
      constructor
      · rintro ⟨a, b, _⟩
        exact ⟨by omega, b⟩
      · rintro ⟨a, b⟩
        exact ⟨by omega, b, .inl rfl⟩
    have f1 : beP w h c n (n - 1) = decide (0 < n % w ∧ rd c (n - 1) ≠ 2) := by
      rw [Bool.eq_iff_iff, key, decide_eq_true_eq]
      constructor
      · rintro ⟨a, b, (d | d | d | d)⟩
        · omega
        · exact ⟨d.2, b⟩
        · omega
        · omega
      · rintro ⟨a, b⟩
        have hp : 0 < n := by
          rcases Int.lt_or_le 0 n with x | x
          · exact x
          · obtain rfl : n = 0 := by omega
            simp at a
        exact ⟨by omega, b, .inr (.inl ⟨rfl, a⟩)⟩
    have f2 : beP w h c n (n + 1) = decide (n % w < w - 1 ∧ rd c (n + 1) ≠ 2) := by
      rw [Bool.eq_iff_iff, key, decide_eq_true_eq]
      constructor
      · rintro ⟨a, b, (d | d | d | d)⟩
        · omega
        · omega
        · exact ⟨d.2, b⟩
        · omega
      · rintro ⟨a, b⟩
        have := rowMul (h := h) hw (by omega) a
        exact ⟨by omega, b, .inr (.inr (.inl ⟨rfl, a⟩))⟩
    have f3 : beP w h c n (n + w) = decide (n + w < (c.length : Int) ∧ rd c (n + w) ≠ 2) := by
      rw [Bool.eq_iff_iff, key, decide_eq_true_eq]
      constructor
      · rintro ⟨a, b, _⟩
        exact ⟨by omega, b⟩
      · rintro ⟨a, b⟩
        exact ⟨by omega, b, .inr (.inr (.inr rfl))⟩
    simp only [List.filter_cons, List.filter_nil, f0, f1, f2, f3, decide_eq_true_eq]
    unfold nearS
    have app : ∀ (a b d e : Prop) [Decidable a] [Decidable b] [Decidable d] [Decidable e] (x y z t : Int), (if a then x :: (if b then y :: (if d then z :: (if e then [t] else []) else (if e then [t] else [])) else (if d then z :: (if e then [t] else []) else (if e then [t] else []))) else (if b then y :: (if d then z :: (if e then [t] else []) else (if e then [t] else [])) else (if d then z :: (if e then [t] else []) else (if e then [t] else [])))) = (((if a then [x] else []) ++ (if b then [y] else [])) ++ (if d then [z] else [])) ++ (if e then [t] else []) := by
      intro a b d e _ _ _ _ x y z t
      by_cases ha : a <;> by_cases hb : b <;> by_cases hd : d <;> by_cases he : e <;> simp [ha, hb, hd, he]
    exact app _ _ _ _ _ _ _ _
theorem impl_Near_ev {w h : Int} {c : List Int} {n : Int} (hn : cellOk w h c n) : Ev (fun k => impl_Near.f k w h c n) (nearS w c n) := by
  have hw := hn.1.1.1
  have hlen := hn.1.len
  have h0 := hn.2.1
  have h1 := hn.2.2
  unfold impl_Near.f
  refine Ev.bind (impl_IsCell_ev w h c n) (evPos (decide_eq_true hn) ?_)
  simp only [Option.bind_some]
  rw [wrapId (n := n - w) (by omega) (by omega), wrapId (n := n - 1) (by omega) (by omega), wrapId (n := n + 1) (by omega) (by omega), wrapId (n := n + w) (by omega) (by omega)]
  have key := evScan [n - w, n - 1, n + 1, n + w] (fun k (acc : List Int) i => impl_Near.l0 k n acc [n - w, n - 1, n + 1, n + w] (([n - w, n - 1, n + 1, n + w] : List Int).length : Int) i w h c) (fun acc i t => Go.Lib.compact (acc ++ t.filter (beP w h c n))) (fun acc i => acc.length ≤ i) (fun acc _ => by
      refine Ev.step (f := fun _ => some (Go.Lib.compact acc)) (fun k => ?_) ?_
      · simp only [impl_Near.l0, slices_Compact_int_int.f, Option.bind_some]
        rw [if_neg (by omega)]
      · simp only [List.filter_nil, List.append_nil]
        exact Ev.now _) (fun acc i t hi _ ha ih => by
      generalize hL : [n - w, n - 1, n + 1, n + w] = L at *
      have hL4 : L.length = 4 := by rw [← hL]; rfl
      have st : ∀ k, impl_Near.l0 (k + 1) n acc L (L.length : Int) (i : Int) w h c = (impl_IsOpen.f k w h c L[i]).bind fun o => if o = true then ((impl_Apart.f k w h c n L[i]).bind fun d => if d = 1 then impl_Near.l0 k n (acc ++ [L[i]]) L (L.length : Int) ((i + 1 : Nat) : Int) w h c else impl_Near.l0 k n acc L (L.length : Int) ((i + 1 : Nat) : Int) w h c) else impl_Near.l0 k n acc L (L.length : Int) ((i + 1 : Nat) : Int) w h c := by
        intro k
        simp only [impl_Near.l0]
        rw [if_pos (by omega), if_pos (by omega), if_pos (by omega), rdIn hi, wrapSucc (by omega)]
        simp only [if_pos (show acc.length < 17592186044416 by omega)]
      have no : ¬ (openOk w h c L[i] ∧ apart w h c n L[i] = 1) → Ev (fun k => impl_Near.l0 k n acc L (L.length : Int) ((i + 1 : Nat) : Int) w h c) (Go.Lib.compact (acc ++ (L[i] :: t).filter (beP w h c n))) := by
        intro q
        rw [List.filter_cons, if_neg (by unfold beP; rw [decide_eq_true_eq]; exact q)]
        exact ih acc (by omega)
      refine Ev.step st (Ev.bind (impl_IsOpen_ev w h c L[i]) ?_)
      by_cases q1 : openOk w h c L[i]
      · refine evPos (decide_eq_true q1) (Ev.bind (impl_Apart_ev w h c n L[i]) ?_)
        by_cases q2 : apart w h c n L[i] = 1
        · refine evPos q2 ?_
          rw [List.filter_cons, if_pos (by unfold beP; rw [decide_eq_true_eq]; exact ⟨q1, q2⟩)]
          have := ih (acc ++ [L[i]]) (by simp; omega)
          rwa [List.append_assoc, List.singleton_append] at this
        · exact evNeg q2 (no (fun x => q2 x.2))
      · exact evNeg (by rw [decide_eq_true_eq]; exact q1) (no (fun x => q1 x.1)))
    [] (by simp)
  rw [List.nil_append, near_compact hn] at key
  exact key

theorem impl_bfs_ev {w h : Int} {c : List Int} (hl : landOk w h c) : ∀ (m : Nat) (d q : List Int), m ≤ 900 → SI c.length m d q → Ev (fun k => impl_distances.l2 k d q w h c) (bfs (nearS w c) m d q) := by
  have hlen := hl.len
  have stop : ∀ d : List Int, Ev (fun k => impl_distances.l2 k d [] w h c) d := by
    intro d
    refine Ev.step (f := fun _ => some d) (fun k => ?_) (Ev.now _)
    simp only [impl_distances.l2, List.length_nil]
    rw [if_neg (by omega)]
  intro m
  induction m with
  | zero =>
    intro d q hm hs
    have : q = [] := List.length_eq_zero_iff.1 (by have := hs.mea; omega)
    subst this
    exact stop d
  | succ m ih =>
    intro d q hm hs
    match q, hs with
    | [], _ => exact stop d
    | v :: t, hs =>
      have hv := (hs.qok v List.mem_cons_self).1
      have hd := (hs.qok v List.mem_cons_self).2
      have hb : rd d v + 1 ≤ 1000 - (m : Int) := by
        have := hs.top v hv.1 hv.2
        omega
      have hcell : cellOk w h c v := ⟨hl, hv⟩
      have st : ∀ k, impl_distances.l2 (k + 1) d (v :: t) w h c = (impl_Near.f k w h c v).bind fun nb => impl_distances.l3 k d t v nb (nb.length : Int) 0 w h c := by
        intro k
        simp only [impl_distances.l2, List.length_cons]
        rw [if_pos (by omega), if_pos (by omega), if_pos (by omega)]
        rfl
      refine Ev.step st (Ev.bind (impl_Near_ev hcell) ?_)
      simp only [bfs]
      have hn := adj_in hl v hv.1 hv.2
      have h4 := nearS_len w c v
      generalize nearS w c v = nb at hn h4 ⊢
      exact evScan nb (fun k (s : List Int × List Int) j => impl_distances.l3 k s.1 s.2 v nb (nb.length : Int) j w h c) (fun s _ r => bfs (nearS w c) m (relax v r s).1 (relax v r s).2) (fun s _ => RI c.length m v (rd d v) s) (fun s hr => by
          refine Ev.step (fun k => ?_) (ih s.1 s.2 (by omega) hr.si)
          simp only [impl_distances.l3]
          rw [if_neg (by omega)]) (fun s j r hj _ hr ih2 => by
          have hu := hn nb[j] (List.getElem_mem hj)
          have hlen1 := hr.si.len
          have hq : s.2.length < 17592186044416 := by
            have := hr.si.mea
            omega
          have st : ∀ k, impl_distances.l3 (k + 1) s.1 s.2 v nb (nb.length : Int) (j : Int) w h c = if rd s.1 nb[j] < 0 then impl_distances.l3 k (s.1.set nb[j].toNat (rd s.1 v + 1)) (s.2 ++ [nb[j]]) v nb (nb.length : Int) ((j + 1 : Nat) : Int) w h c else impl_distances.l3 k s.1 s.2 v nb (nb.length : Int) ((j + 1 : Nat) : Int) w h c := by
            intro k
            simp only [impl_distances.l3]
            rw [if_pos (by omega), if_pos (by omega), if_pos (by omega), rdIn hj, if_pos hu.1, if_pos (show nb[j] < (s.1.length : Int) by omega), if_pos hv.1, if_pos (show v < (s.1.length : Int) by omega), if_pos hq, wrapSucc (by omega), wrapId (n := rd s.1 v + 1) (by rw [hr.rdv]; omega) (by rw [hr.rdv]; omega)]
          refine Ev.step st ?_
          simp only [relax]
          by_cases g : rd s.1 nb[j] < 0
          · rw [if_pos g]
            refine evPos g ?_
            rw [hr.rdv]
            exact ih2 (s.1.set nb[j].toNat (rd d v + 1), s.2 ++ [nb[j]]) (hr.push hv hd hb hu g)
          · rw [if_neg g]
            exact evNeg g (ih2 s hr))
        (d, t) (RI.start hs)
theorem impl_distances_ev {w h : Int} {c : List Int} (hl : landOk w h c) {l : List Int} (hll : l.length ≤ 100000000) : Ev (fun k => impl_distances.f k w h c l) (distS w h c l) := by
  have hlen := hl.len
  have two : Ev (fun k => impl_distances.l1 k (blank c).1 (blank c).2 l (l.length : Int) 0 w h c) (distS w h c l) := by
    unfold distS
    have r0 := fun (l' : List Int) => seeds_SI hl l'
    exact evScan l (fun k (s : List Int × List Int) j => impl_distances.l1 k s.1 s.2 l (l.length : Int) j w h c) (fun s _ r => bfs (nearS w c) 200 (seeds w h c r s).1 (seeds w h c r s).2) (fun s _ => Sd w h c (fun _ => True) s) (fun s hs => by
        have si : SI c.length 200 s.1 s.2 := by
          refine ⟨hs.len, by have := hs.mea; omega, fun x hx => ⟨hs.rng x hx, ?_⟩, fun x h0 h1 => ?_⟩
          · rcases hs.all x (hs.rng x hx).1 (hs.rng x hx).2 with p | p
            · omega
            · exact absurd hx p.2
          · rcases hs.all x h0 h1 with p | p <;> omega
        refine Ev.step (fun k => ?_) (impl_bfs_ev hl 200 s.1 s.2 (by omega) si)
        simp only [impl_distances.l1]
        rw [if_neg (by omega)]) (fun s j r hj _ hs ih => by
        have hq : s.2.length < 17592186044416 := by
          have := hs.mea
          omega
        have st : ∀ k, impl_distances.l1 (k + 1) s.1 s.2 l (l.length : Int) (j : Int) w h c = (impl_IsOpen.f k w h c l[j]).bind fun o => if o = true then (if 0 ≤ l[j] then (if l[j] < (s.1.length : Int) then (if rd s.1 l[j] < 0 then impl_distances.l1 k (s.1.set l[j].toNat 0) (s.2 ++ [l[j]]) l (l.length : Int) ((j + 1 : Nat) : Int) w h c else impl_distances.l1 k s.1 s.2 l (l.length : Int) ((j + 1 : Nat) : Int) w h c) else none) else none) else impl_distances.l1 k s.1 s.2 l (l.length : Int) ((j + 1 : Nat) : Int) w h c := by
          intro k
          simp only [impl_distances.l1]
          rw [if_pos (by omega), if_pos (by omega), if_pos (by omega), rdIn hj, wrapSucc (by omega)]
          simp only [if_pos hq]
        refine Ev.step st (Ev.bind (impl_IsOpen_ev w h c l[j]) ?_)
        simp only [seeds]
        by_cases o : openOk w h c l[j]
        · refine evPos (decide_eq_true o) (evPos o.1.2.1 (evPos (show l[j] < (s.1.length : Int) by rw [hs.len]; exact o.1.2.2) ?_))
          by_cases g : rd s.1 l[j] < 0
          · rw [if_pos ⟨o, g⟩]
            exact evPos g (ih (s.1.set l[j].toNat 0, s.2 ++ [l[j]]) (hs.push o trivial g))
          · rw [if_neg (fun z => g z.2)]
            exact evNeg g (ih s hs)
        · rw [if_neg (fun z => o z.1)]
          exact evNeg (by rw [decide_eq_true_eq]; exact o) (ih s hs))
      (blank c) (blank_Sd w h c _)
  unfold impl_distances.f
  have key := evScan c (fun k (s : List Int) i => impl_distances.l0 k l s (c.length : Int) i w h c) (fun _ _ _ => distS w h c l) (fun s i => s = List.replicate i (-1)) (fun s hs => by
      subst hs
      refine Ev.step (fun k => ?_) two
      simp only [impl_distances.l0]
      rw [if_neg (by omega)]
      rfl) (fun s i t hi _ hs ih => by
      subst hs
      refine Ev.step (fun k => ?_) (ih (List.replicate (i + 1) (-1)) rfl)
      simp only [impl_distances.l0]
      rw [if_pos (by omega), if_pos (show (List.replicate i (-1 : Int)).length < 17592186044416 by simp; omega), wrapSucc (by omega), List.replicate_succ'])
    [] rfl
  exact key

theorem impl_Days_ev (w h : Int) (c : List Int) (a b : Int) : Ev (fun k => impl_Days.f k w h c a b) (daysS w h c a b) := by
  unfold impl_Days.f daysS
  refine Ev.bind (impl_IsOpen_ev w h c a) ?_
  by_cases qa : openOk w h c a
  · refine evPos (decide_eq_true qa) (Ev.bind (impl_IsOpen_ev w h c b) ?_)
    by_cases qb : openOk w h c b
    · rw [if_pos ⟨qa, qb⟩]
      exact evPos (decide_eq_true qb) (Ev.bind (impl_distances_ev qa.1.1 (by simp)) (evPos qb.1.2.1 (evPos (show b < ((distS w h c [a]).length : Int) by rw [dist_len qa.1.1]; exact qb.1.2.2) (Ev.now _))))
    · rw [if_neg (fun x => qb x.2)]
      exact evNeg (by rw [decide_eq_true_eq]; exact qb) (Ev.now _)
  · rw [if_neg (fun x => qa x.1)]
    exact evNeg (by rw [decide_eq_true_eq]; exact qa) (Ev.now _)

theorem evAfter {α : Type} {g : Nat → Option α} {r : α} (n : Nat) (h : ∀ k, g (k + n) = some r) : Ev g r := ⟨n, fun k hk => by have := h (k - n); rwa [Nat.sub_add_cancel hk] at this⟩

theorem spec_l4Near_ev {w h : Int} {c : List Int} {n : Int} (hn : cellOk w h c n) : Ev (fun k => spec_l4Near.f k w h c n) (nearS w c n) := by
  have hw := hn.1.1.1
  have hc := hn.1.2.1
  have hlen := hn.1.len
  have h0 := hn.2.1
  have h1 := hn.2.2
  obtain ⟨me, -, m0, m1, -, -⟩ := modB hw h0 (by omega)
  have cond : ∀ (p : Prop) [Decidable p] (x m : Int), p → (if ((rd c x) != 2) = true then [m] else []) = (if p ∧ rd c x ≠ 2 then [m] else []) := by
    intro p _ x m hp
    by_cases q : rd c x = 2
    · rw [if_neg (by simp [q]), if_neg (fun z => z.2 q)]
    · rw [if_pos (by simp [q]), if_pos ⟨hp, q⟩]
  have ncond : ∀ (p : Prop) [Decidable p] (x m : Int), ¬ p → (if false = true then [m] else []) = (if p ∧ rd c x ≠ 2 then [m] else []) := by
    intro p _ x m hp
    rw [if_neg (by simp), if_neg (fun z => hp z.1)]
  have ten : ∀ (o : List Int) (b : Bool) (m : Int), (o ++ if b = true then [m] else []).length ≤ o.length + 1 := by
    intro o b m
    cases b <;> simp
  have j4 : ∀ (k : Nat) (o : List Int) (b : Bool), o.length ≤ 10 → spec_l4Near.j4 (k + 1) n o b w h c = some ((o ++ if b = true then [n + 1] else []) ++ if n + w < (c.length : Int) ∧ rd c (n + w) ≠ 2 then [n + w] else []) := by
    intro k o b ho
    simp only [spec_l4Near.j4]
    rw [wrapId (n := n + w) (by omega) (by omega), wrapId (n := n + 1) (by omega) (by omega), if_pos (show o.length < 17592186044416 by omega), if_pos (show o.length < 17592186044416 by omega)]
    simp only [Option.bind_some, if_pos (show (0 : Int) ≤ n + w by omega)]
    rw [if_pos (show (o ++ [n + 1]).length < 17592186044416 by simp; omega)]
    by_cases q : n + w < (c.length : Int)
    · by_cases r : rd c (n + w) = 2
      · cases b <;> simp [q, r]
      · cases b <;> simp [q, r]
    · cases b <;> simp [q]
  have j3 : ∀ (k : Nat) (o : List Int), o.length ≤ 10 → spec_l4Near.j3 (k + 2) n o w h c = some ((o ++ if n % w < w - 1 ∧ rd c (n + 1) ≠ 2 then [n + 1] else []) ++ if n + w < (c.length : Int) ∧ rd c (n + w) ≠ 2 then [n + w] else []) := by
    intro k o ho
    simp only [spec_l4Near.j3]
    rw [if_neg (show ¬ w = 0 by omega), me, wrapId (n := w - 1) (by omega) (by omega), wrapId (n := n + 1) (by omega) (by omega)]
    by_cases q : n % w < w - 1
    · have := rowMul (h := h) hw (by omega) q
      rw [if_pos q, if_pos (by omega), if_pos (by omega), j4 k o _ ho, cond _ _ _ q]
    · rw [if_neg q, j4 k o _ ho, ncond _ (n + 1) _ q]
  have j2 : ∀ (k : Nat) (o : List Int) (b : Bool), o.length ≤ 9 → spec_l4Near.j2 (k + 3) n o b w h c = some (((o ++ if b = true then [n - 1] else []) ++ if n % w < w - 1 ∧ rd c (n + 1) ≠ 2 then [n + 1] else []) ++ if n + w < (c.length : Int) ∧ rd c (n + w) ≠ 2 then [n + w] else []) := by
    intro k o b ho
    simp only [spec_l4Near.j2]
    rw [wrapId (n := n - 1) (by omega) (by omega), if_pos (show o.length < 17592186044416 by omega)]
    cases b with
    | true =>
      rw [if_pos rfl, if_pos rfl, j3 k _ (by simp; omega)]
    | false =>
      rw [if_neg (by simp), if_neg (by simp), j3 k _ (by omega), List.append_nil]
  have j1 : ∀ (k : Nat) (o : List Int), o.length ≤ 9 → spec_l4Near.j1 (k + 4) n o w h c = some (((o ++ if 0 < n % w ∧ rd c (n - 1) ≠ 2 then [n - 1] else []) ++ if n % w < w - 1 ∧ rd c (n + 1) ≠ 2 then [n + 1] else []) ++ if n + w < (c.length : Int) ∧ rd c (n + w) ≠ 2 then [n + w] else []) := by
    intro k o ho
    simp only [spec_l4Near.j1]
    rw [if_neg (show ¬ w = 0 by omega), me, wrapId (n := n - 1) (by omega) (by omega)]
    by_cases q : 0 < n % w
    · have hp : 0 < n := by
        rcases Int.lt_or_le 0 n with x | x
        · exact x
        · obtain rfl : n = 0 := by omega
          simp at q
      rw [if_pos (show n % w > 0 from q), if_pos (by omega), if_pos (by omega), j2 k o _ ho, cond _ _ _ q]
    · rw [if_neg (show ¬ n % w > 0 from q), j2 k o _ ho, ncond _ (n - 1) _ q]
  have j0 : ∀ (k : Nat) (o : List Int) (b : Bool), o.length ≤ 8 → spec_l4Near.j0 (k + 5) n o b w h c = some ((((o ++ if b = true then [n - w] else []) ++ if 0 < n % w ∧ rd c (n - 1) ≠ 2 then [n - 1] else []) ++ if n % w < w - 1 ∧ rd c (n + 1) ≠ 2 then [n + 1] else []) ++ if n + w < (c.length : Int) ∧ rd c (n + w) ≠ 2 then [n + w] else []) := by
    intro k o b ho
    simp only [spec_l4Near.j0]
    rw [wrapId (n := n - w) (by omega) (by omega), if_pos (show o.length < 17592186044416 by omega)]
    cases b with
    | true =>
      rw [if_pos rfl, if_pos rfl, j1 k _ (by simp; omega)]
    | false =>
      rw [if_neg (by simp), if_neg (by simp), j1 k _ (by omega), List.append_nil]
  refine evAfter 5 (fun k => ?_)
  simp only [spec_l4Near.f, Option.bind_some]
  rw [wrapId (n := n - w) (by omega) (by omega)]
  by_cases q : w ≤ n
  · rw [if_pos (show n ≥ w from q), if_pos (by omega), if_pos (by omega), j0 k [] _ (by simp), cond _ _ _ q, List.nil_append]
    rfl
  · rw [if_neg (show ¬ n ≥ w from q), j0 k [] _ (by simp), ncond _ (n - w) _ q, List.nil_append]
    rfl

theorem spec_bfs_ev {w h : Int} {c : List Int} (hl : landOk w h c) : ∀ (m : Nat) (d q pre : List Int), m ≤ 900 → pre.length + m ≤ 900 → SI c.length m d q → Ev (fun k => spec_l5From.l1 k d (pre ++ q) (pre.length : Int) w h c) (bfs (nearS w c) m d q) := by
  have hlen := hl.len
  have stop : ∀ d pre : List Int, Ev (fun k => spec_l5From.l1 k d (pre ++ []) (pre.length : Int) w h c) d := by
    intro d pre
    refine Ev.step (f := fun _ => some d) (fun k => ?_) (Ev.now _)
    simp only [spec_l5From.l1, List.append_nil]
    rw [if_neg (by omega)]
  intro m
  induction m with
  | zero =>
    intro d q pre hm hp hs
    have : q = [] := List.length_eq_zero_iff.1 (by have := hs.mea; omega)
    subst this
    exact stop d pre
  | succ m ih =>
    intro d q pre hm hp hs
    match q, hs with
    | [], _ => exact stop d pre
    | v :: t, hs =>
      have hv := (hs.qok v List.mem_cons_self).1
      have hd := (hs.qok v List.mem_cons_self).2
      have hb : rd d v + 1 ≤ 1000 - (m : Int) := by
        have := hs.top v hv.1 hv.2
        omega
      have hcell : cellOk w h c v := ⟨hl, hv⟩
      have rdq : ∀ t' : List Int, rd (pre ++ v :: t') (pre.length : Int) = v := by
        intro t'
        rw [rdAt, List.getD_eq_getElem?_getD, List.getElem?_append_right (Nat.le_refl _), Nat.sub_self]
        rfl
      have st : ∀ k, spec_l5From.l1 (k + 1) d (pre ++ v :: t) (pre.length : Int) w h c = (spec_l4Near.f k w h c v).bind fun nb => spec_l5From.l2 k d (pre ++ v :: t) (pre.length : Int) nb 0 w h c := by
        intro k
        simp only [spec_l5From.l1]
        rw [if_pos (show (pre.length : Int) < ((pre ++ v :: t).length : Int) by simp only [List.length_append, List.length_cons]; omega), if_pos (by omega), rdq]
      refine Ev.step st (Ev.bind (spec_l4Near_ev hcell) ?_)
      simp only [bfs]
      have hn := adj_in hl v hv.1 hv.2
      have h4 := nearS_len w c v
      generalize nearS w c v = nb at hn h4 ⊢
      exact evScan nb (fun k (s : List Int × List Int) j => spec_l5From.l2 k s.1 (pre ++ v :: s.2) (pre.length : Int) nb j w h c) (fun s _ r => bfs (nearS w c) m (relax v r s).1 (relax v r s).2) (fun s _ => RI c.length m v (rd d v) s) (fun s hr => by
          have := ih s.1 s.2 (pre ++ [v]) (by omega) (by simp only [List.length_append, List.length_cons, List.length_nil]; omega) hr.si
          rw [List.append_assoc, List.singleton_append] at this
          refine Ev.step (fun k => ?_) this
          simp only [spec_l5From.l2]
          rw [if_neg (by omega), wrapSucc (by omega)]
          simp) (fun s j r hj _ hr ih2 => by
          have hu := hn nb[j] (List.getElem_mem hj)
          have hlen1 := hr.si.len
          have hq : (pre ++ v :: s.2).length < 17592186044416 := by
            have := hr.si.mea
            simp only [List.length_append, List.length_cons]
            omega
          have st : ∀ k, spec_l5From.l2 (k + 1) s.1 (pre ++ v :: s.2) (pre.length : Int) nb (j : Int) w h c = if rd s.1 nb[j] < 0 then spec_l5From.l2 k (s.1.set nb[j].toNat (rd s.1 v + 1)) (pre ++ v :: (s.2 ++ [nb[j]])) (pre.length : Int) nb ((j + 1 : Nat) : Int) w h c else spec_l5From.l2 k s.1 (pre ++ v :: s.2) (pre.length : Int) nb ((j + 1 : Nat) : Int) w h c := by
            intro k
            simp only [spec_l5From.l2]
            rw [if_pos (by omega), if_pos (by omega), rdIn hj, if_pos hu.1, if_pos (show nb[j] < (s.1.length : Int) by omega), rdq, if_pos (show (0 : Int) ≤ (pre.length : Int) by omega), if_pos (show (pre.length : Int) < ((pre ++ v :: s.2).length : Int) by simp only [List.length_append, List.length_cons]; omega), if_pos hv.1, if_pos (show v < (s.1.length : Int) by omega), if_pos hq, wrapSucc (by omega), wrapId (n := rd s.1 v + 1) (by rw [hr.rdv]; omega) (by rw [hr.rdv]; omega), List.append_assoc, List.cons_append]
          refine Ev.step st ?_
          simp only [relax]
          by_cases g : rd s.1 nb[j] < 0
          · rw [if_pos g]
            refine evPos g ?_
            rw [hr.rdv]
            exact ih2 (s.1.set nb[j].toNat (rd d v + 1), s.2 ++ [nb[j]]) (hr.push hv hd hb hu g)
          · rw [if_neg g]
            exact evNeg g (ih2 s hr))
        (d, t) (RI.start hs)
theorem spec_l5From_ev {w h : Int} {c : List Int} {a : Int} (ho : openOk w h c a) : Ev (fun k => spec_l5From.f k w h c a) (distS w h c [a]) := by
  have hl := ho.1.1
  have hlen := hl.len
  have two : Ev (fun k => spec_l5From.l1 k ((blank c).1.set a.toNat 0) [a] 0 w h c) (distS w h c [a]) := by
    have si := seeds_SI hl [a]
    unfold distS
    rw [seeds_one ho] at si ⊢
    exact spec_bfs_ev hl 200 _ _ [] (by omega) (by simp) si
  unfold spec_l5From.f
  have key := evScan c (fun k (s : List Int) i => spec_l5From.l0 k a s i w h c) (fun _ _ _ => distS w h c [a]) (fun s i => s = List.replicate i (-1)) (fun s hs => by
      subst hs
      refine Ev.step (fun k => ?_) two
      simp only [spec_l5From.l0]
      rw [if_neg (by omega), if_pos ho.1.2.1, if_pos (show a < ((List.replicate c.length (-1 : Int)).length : Int) by simp only [List.length_replicate]; exact ho.1.2.2)]
      rfl) (fun s i t hi _ hs ih => by
      subst hs
      refine Ev.step (fun k => ?_) (ih (List.replicate (i + 1) (-1)) rfl)
      simp only [spec_l5From.l0]
      rw [if_pos (by omega), if_pos (show (List.replicate i (-1 : Int)).length < 17592186044416 by simp; omega), wrapSucc (by omega), List.replicate_succ'])
    [] rfl
  exact key

theorem spec_Days_ev (w h : Int) (c : List Int) (a b : Int) : Ev (fun k => spec_Days.f k w h c a b) (daysS w h c a b) := by
  unfold spec_Days.f daysS
  refine Ev.bind (spec_IsOpen_ev w h c a) ?_
  by_cases qa : openOk w h c a
  · refine evPos (decide_eq_true qa) (Ev.bind (spec_IsOpen_ev w h c b) ?_)
    by_cases qb : openOk w h c b
    · rw [if_pos ⟨qa, qb⟩]
      exact evPos (decide_eq_true qb) (Ev.bind (spec_l5From_ev qa) (evPos qb.1.2.1 (evPos (show b < ((distS w h c [a]).length : Int) by rw [dist_len qa.1.1]; exact qb.1.2.2) (Ev.now _))))
    · rw [if_neg (fun x => qb x.2)]
      exact evNeg (by rw [decide_eq_true_eq]; exact qb) (Ev.now _)
  · rw [if_neg (fun x => qa x.1)]
    exact evNeg (by rw [decide_eq_true_eq]; exact qa) (Ev.now _)

def needSum : List S95 → Int
  | [] => 0
  | m :: t => m.f2 + needSum t
def needOf (l : List S95) : Int := if areCrew l = true then needSum l else 0
theorem needSum_le : ∀ {l : List S95}, (∀ m ∈ l, 1 ≤ m.f2 ∧ m.f2 ≤ 10) → (l.length : Int) ≤ needSum l ∧ needSum l ≤ 10 * (l.length : Int)
  | [], _ => by simp [needSum]
  | m :: t, h => by
    have h0 := h m List.mem_cons_self
    have h1 := needSum_le (l := t) (fun x hx => h x (List.mem_cons_of_mem _ hx))
    simp only [needSum, List.length_cons, Int.natCast_add]
    omega
theorem needOf_crew {l : List S95} (c : areCrew l = true) : 1 ≤ needOf l ∧ needOf l ≤ 80 := by
  unfold needOf
  rw [if_pos c]
  have h0 := needSum_le (l := l) (fun m hm => (areCrew_ok c m hm).2.2)
  have h1 := areCrew_len c
  omega
theorem needOf_none {l : List S95} (c : ¬ areCrew l = true) : needOf l = 0 := by
  unfold needOf
  rw [if_neg c]

theorem impl_NeedOf_ev {l : List S95} (hl : l.length ≤ 100000000) : Ev (fun k => impl_NeedOf.f k l) (needOf l) := by
  unfold impl_NeedOf.f needOf
  refine Ev.bind (impl_AreCrew_ev hl) ?_
  by_cases c : areCrew l = true
  · rw [if_pos c]
    refine evPos c ?_
    have hb := areCrew_ok c
    have hn := areCrew_len c
    have key := evScan l (fun k (acc : Int) i => impl_NeedOf.l0 k acc l (l.length : Int) i) (fun acc _ t => acc + needSum t) (fun acc i => 0 ≤ acc ∧ acc ≤ 10 * (i : Int)) (fun acc _ => by
        rw [show acc + needSum [] = acc by simp [needSum]]
        refine Ev.step (f := fun _ => some acc) (fun k => ?_) (Ev.now _)
        simp only [impl_NeedOf.l0]
        rw [if_neg (by omega)]) (fun acc i t h ht hi ih => by
        have hm := hb l[i] (List.getElem_mem h)
        have := ih (acc + l[i].f2) (by omega)
        rw [show acc + l[i].f2 + needSum t = acc + needSum (l[i] :: t) by simp only [needSum]; omega] at this
        refine Ev.step (fun k => ?_) this
        simp only [impl_NeedOf.l0]
        rw [if_pos (by omega), if_pos (by omega), if_pos (by omega), rdM h, wrapSucc (by omega), wrapId (n := acc + l[i].f2) (by omega) (by omega)])
      0 (by omega)
    simpa using key
  · rw [if_neg c]
    exact evNeg c (Ev.now _)

theorem spec_NeedOf_ev {l : List S95} (hl : l.length ≤ 100000000) : Ev (fun k => spec_NeedOf.f k l) (needOf l) := by
  unfold spec_NeedOf.f needOf
  by_cases c : areCrew l = true
  · rw [if_pos c]
    have hb := areCrew_ok c
    have hn := areCrew_len c
    have key := evScan l (fun k (acc : Int) i => spec_NeedOf.l0 k l acc i) (fun acc _ t => acc + needSum t) (fun acc i => 0 ≤ acc ∧ acc ≤ 10 * (i : Int)) (fun acc _ => by
        rw [show acc + needSum [] = acc by simp [needSum]]
        refine Ev.step (f := fun _ => some acc) (fun k => ?_) (Ev.now _)
        simp only [spec_NeedOf.l0]
        rw [if_neg (by omega)]) (fun acc i t h ht hi ih => by
        have hm := hb l[i] (List.getElem_mem h)
        have := ih (acc + l[i].f2) (by omega)
        rw [show acc + l[i].f2 + needSum t = acc + needSum (l[i] :: t) by simp only [needSum]; omega] at this
        have st : ∀ k, spec_NeedOf.l0 (k + 1) l acc (i : Int) = (spec_AreCrew.f k l).bind fun b => if b = true then spec_NeedOf.l0 k l (acc + l[i].f2) ((i + 1 : Nat) : Int) else some acc := by
          intro k
          simp only [spec_NeedOf.l0]
          rw [if_pos (by omega), rdM h, wrapSucc (by omega), wrapId (n := acc + l[i].f2) (by omega) (by omega)]
          simp only [if_pos (show (0 : Int) ≤ (i : Int) by omega)]
        exact Ev.step st (Ev.bind (spec_AreCrew_ev hl) (evPos c this)))
      0 (by omega)
    simpa using key
  · rw [if_neg c]
    by_cases e : 0 < l.length
    · refine Ev.step (fun k => rfl) ?_
      simp only [spec_NeedOf.l0]
      exact evPos (by omega) (Ev.bind (spec_AreCrew_ev hl) (evNeg c (Ev.now _)))
    · refine Ev.step (f := fun _ => some 0) (fun k => ?_) (Ev.now _)
      simp only [spec_NeedOf.l0]
      rw [if_neg (by omega)]

/-- A rule for storms. -/
def isRule (m wd : Int) : Prop := (1 ≤ wd ∧ wd ≤ 10) ∧ (0 ≤ m ∧ m ≤ wd - 1)
instance (m wd : Int) : Decidable (isRule m wd) := inferInstanceAs (Decidable (_ ∧ _))
theorem impl_IsRule_eq (m wd : Int) : impl_IsRule.f m wd = some (decide (isRule m wd)) := by
  unfold impl_IsRule.f isRule
  simp only [inRange_eq, Option.bind_some]
  by_cases c : 1 ≤ wd ∧ wd ≤ 10
  · rw [wrapId (n := wd - 1) (by omega) (by omega)]
    simp [c]
  · simp [c]
theorem spec_IsRule_eq (m wd : Int) : spec_IsRule.f m wd = some (decide (isRule m wd)) := by
  unfold spec_IsRule.f isRule
  simp only [l1In_eq, Option.bind_some]
  by_cases c : 1 ≤ wd ∧ wd ≤ 10
  · rw [wrapId (n := wd - 1) (by omega) (by omega)]
    simp [c]
  · simp [c]
def storms : List Bool → Int
  | [] => 0
  | b :: t => (if b = true then 1 else 0) + storms t
theorem storms_pos : ∀ l : List Bool, 0 ≤ storms l ∧ storms l ≤ (l.length : Int)
  | [] => by simp [storms]
  | b :: t => by
    have := storms_pos t
    simp only [storms, List.length_cons, Int.natCast_add]
    split <;> omega
theorem storms_append : ∀ a b : List Bool, storms (a ++ b) = storms a + storms b
  | [], b => by simp [storms]
  | x :: t, b => by
    simp only [List.cons_append, storms, storms_append t b]
    omega
theorem storms_true : ∀ n : Nat, storms (List.replicate n true) = (n : Int)
  | 0 => rfl
  | n + 1 => by
    rw [List.replicate_succ]
    simp only [storms, storms_true n, if_true, Int.natCast_add]
    omega
theorem impl_CountStorms_ev {l : List Bool} (hl : l.length ≤ 100000000) : Ev (fun k => impl_CountStorms.f k l) (storms l) := by
  have key := evScan l (fun k (acc : Int) i => impl_CountStorms.l0 k acc l (l.length : Int) i) (fun acc _ t => acc + storms t) (fun acc i => 0 ≤ acc ∧ acc ≤ (i : Int)) (fun acc _ => by
      simp only [storms, Int.add_zero]
      refine Ev.step (f := fun _ => some acc) (fun k => ?_) (Ev.now _)
      simp only [impl_CountStorms.l0]
      rw [if_neg (by omega)]) (fun acc i t hi _ ha ih => by
      have st : ∀ k, impl_CountStorms.l0 (k + 1) acc l (l.length : Int) (i : Int) = if l[i] = true then impl_CountStorms.l0 k (acc + 1) l (l.length : Int) ((i + 1 : Nat) : Int) else impl_CountStorms.l0 k acc l (l.length : Int) ((i + 1 : Nat) : Int) := by
        intro k
        simp only [impl_CountStorms.l0]
        rw [if_pos (by omega), if_pos (by omega), if_pos (by omega), rdOfIn hi, wrapSucc (by omega), wrapId (n := acc + 1) (by omega) (by omega)]
      refine Ev.step st ?_
      simp only [storms]
      by_cases q : l[i] = true
      · have := ih (acc + 1) (by omega)
        rw [if_pos q, ← Int.add_assoc]
        exact evPos q this
      · have := ih acc (by omega)
        rw [if_neg q, Int.zero_add]
        exact evNeg q this)
    0 (by omega)
  unfold impl_CountStorms.f
  simpa using key
theorem spec_CountStorms_ev {l : List Bool} (hl : l.length ≤ 100000000) : Ev (fun k => spec_CountStorms.f k l) (storms l) := by
  have key := evScan l (fun k (acc : Int) i => spec_CountStorms.l0 k l acc i) (fun acc _ t => acc + storms t) (fun acc i => 0 ≤ acc ∧ acc ≤ (i : Int)) (fun acc _ => by
      simp only [storms, Int.add_zero]
      refine Ev.step (f := fun _ => some acc) (fun k => ?_) (Ev.now _)
      simp only [spec_CountStorms.l0]
      rw [if_neg (by omega)]) (fun acc i t hi _ ha ih => by
      have st : ∀ k, spec_CountStorms.l0 (k + 1) l acc (i : Int) = if l[i] = true then spec_CountStorms.l0 k l (acc + 1) ((i + 1 : Nat) : Int) else spec_CountStorms.l0 k l acc ((i + 1 : Nat) : Int) := by
        intro k
        simp only [spec_CountStorms.l0]
        rw [if_pos (by omega), if_pos (by omega), rdOfIn hi, wrapSucc (by omega), wrapId (n := acc + 1) (by omega) (by omega)]
      refine Ev.step st ?_
      simp only [storms]
      by_cases q : l[i] = true
      · have := ih (acc + 1) (by omega)
        rw [if_pos q, ← Int.add_assoc]
        exact evPos q this
      · have := ih acc (by omega)
        rw [if_neg q, Int.zero_add]
        exact evNeg q this)
    0 (by omega)
  unfold spec_CountStorms.f
  simpa using key
/-- The last k of a list. -/
def tailS (k : Nat) (l : List Bool) : List Bool := l.drop (l.length - k)
theorem tailS_tail {k j : Nat} (h : k ≤ j) (l : List Bool) : tailS k (tailS j l) = tailS k l := by
  unfold tailS
  rw [List.drop_drop, List.length_drop]
  congr 1
  omega
theorem tailS_snoc (k : Nat) (l : List Bool) (s : Bool) : tailS (k + 1) (l ++ [s]) = tailS k l ++ [s] := by
  unfold tailS
  rw [List.length_append, List.length_singleton, show l.length + 1 - (k + 1) = l.length - k by omega, List.drop_append_of_le_length (by omega)]
theorem tailS_len (k : Nat) (l : List Bool) : (tailS k l).length ≤ l.length := by
  unfold tailS
  rw [List.length_drop]
  omega
theorem impl_last_eq {l : List Bool} {n : Int} (hl : l.length ≤ 100000000) (hn : 0 ≤ n ∧ n ≤ 1000) : impl_last.f l n = some (tailS n.toNat l) := by
  unfold impl_last.f
  have e : mx (wrap64 ((l.length : Int) - n)) 0 = ((l.length - n.toNat : Nat) : Int) := by
    rw [wrapId (n := (l.length : Int) - n) (by omega) (by omega)]
    unfold mx
    split <;> omega
  rw [e, if_pos (by omega), if_pos (by omega), Int.toNat_natCast]
  rfl
/-- May there be a storm, behind this past? -/
def mayS (m wd : Int) (p : List Bool) : Bool := decide (storms (tailS (wd - 1).toNat p) < m)
theorem impl_MayStorm_ev {m wd : Int} (hr : isRule m wd) {p : List Bool} (hp : p.length ≤ 10000000) : Ev (fun k => impl_MayStorm.f k m wd p) (mayS m wd p) := by
  have hw := hr.1
  have := tailS_len (wd - 1).toNat p
  unfold impl_MayStorm.f mayS
  simp only [impl_IsRule_eq, Option.bind_some]
  refine evPos (decide_eq_true hr) ?_
  rw [wrapId (n := wd - 1) (by omega) (by omega), impl_last_eq (by omega) (by omega)]
  simp only [Option.bind_some]
  exact Ev.bind (impl_CountStorms_ev (by omega)) (Ev.now _)
theorem spec_MayStorm_ev {m wd : Int} (hr : isRule m wd) {p : List Bool} (hp : p.length ≤ 10000000) : Ev (fun k => spec_MayStorm.f k m wd p) (mayS m wd p) := by
  have hw := hr.1
  have := tailS_len (wd - 1).toNat p
  unfold spec_MayStorm.f mayS
  simp only [spec_IsRule_eq, Option.bind_some]
  refine evPos (decide_eq_true hr) ?_
  have e : spec_Max.f 0 (wrap64 (wrap64 ((p.length : Int) + 1) - wd)) = some ((p.length - (wd - 1).toNat : Nat) : Int) := by
    rw [wrapId (n := (p.length : Int) + 1) (by omega) (by omega), wrapId (n := (p.length : Int) + 1 - wd) (by omega) (by omega)]
    unfold spec_Max.f
    split
    · congr 1
      omega
    · congr 1
      omega
  rw [e]
  simp only [Option.bind_some]
  refine evPos (by omega) (evPos (by omega) ?_)
  rw [Int.toNat_natCast]
  exact Ev.bind (spec_CountStorms_ev (show (tailS (wd - 1).toNat p).length ≤ 100000000 by omega)) (Ev.now _)
theorem impl_AddDay_eq {p : List Bool} (hp : p.length ≤ 10000000) (s : Bool) : impl_AddDay.f p s = some (tailS 10 (p ++ [s])) := by
  have := tailS_len 10 (p ++ [s])
  rw [List.length_append, List.length_singleton] at this
  unfold impl_AddDay.f
  simp only [Option.bind_some, List.length_nil, Nat.zero_add, List.nil_append]
  rw [if_pos (by omega), if_pos (by omega), impl_last_eq (by rw [List.length_append, List.length_singleton]; omega) (by omega)]
  simp only [Option.bind_some]
  rw [show (10 : Int).toNat = 10 from rfl, if_pos (by omega)]
/-- The days that pass at worst until n are calm. -/
def worstS (m wd : Int) : Nat → Int → List Bool → Int
  | 0, _, _ => 0
  | d + 1, n, p => if n > 0 then 1 + (if mayS m wd p = true then worstS m wd d n (p ++ [true]) else worstS m wd d (n - 1) (p ++ [false])) else 0
theorem worstS_pos (m wd : Int) : ∀ (d : Nat) (n : Int) (p : List Bool), 0 ≤ worstS m wd d n p ∧ worstS m wd d n p ≤ (d : Int)
  | 0, _, _ => by simp [worstS]
  | d + 1, n, p => by
    have h0 := worstS_pos m wd d n (p ++ [true])
    have h1 := worstS_pos m wd d (n - 1) (p ++ [false])
    simp only [worstS]
    split
    · split <;> omega
    · omega
/-- As many storms behind each other as the rule lets in: then it is calm. -/
theorem mayS_run {m wd : Int} (hr : isRule m wd) {p0 : List Bool} {c : Nat} (hc : (c : Int) ≤ m) (h : mayS m wd (p0 ++ List.replicate c true) = true) : (c : Int) < m := by
  unfold mayS at h
  rw [decide_eq_true_eq] at h
  have hw := hr.1
  have hm := hr.2
  have e : tailS (wd - 1).toNat (p0 ++ List.replicate c true) = p0.drop (p0.length + c - (wd - 1).toNat) ++ List.replicate c true := by
    unfold tailS
    rw [List.length_append, List.length_replicate, List.drop_append_of_le_length (by omega)]
  rw [e, storms_append, storms_true] at h
  have := storms_pos (p0.drop (p0.length + c - (wd - 1).toNat))
  omega
theorem spec_worst_loop {m wd : Int} (hr : isRule m wd) (l : List Bool) : ∀ (d : Nat) (n : Int) (p0 : List Bool) (c : Nat), (c : Int) ≤ m → 0 ≤ n → n * 11 + (m - (c : Int)) < (d : Int) → l.length ≤ p0.length + c → p0.length + c + d ≤ 10000 →
    Ev (fun k => spec_WorstDays.l0 k l n (p0 ++ List.replicate c true) m wd) (((p0.length + c : Nat) : Int) - (l.length : Int) + worstS m wd d n (p0 ++ List.replicate c true)) := by
  have hm := hr.2
  have hw := hr.1
  intro d
  induction d with
  | zero =>
    intro n p0 c hc hn hd _ _
    omega
  | succ d ih =>
    intro n p0 c hc hn hd hl hb
    have pl : (p0 ++ List.replicate c true).length = p0.length + c := by rw [List.length_append, List.length_replicate]
    by_cases q : n > 0
    · have st : ∀ k, spec_WorstDays.l0 (k + 1) l n (p0 ++ List.replicate c true) m wd = (spec_MayStorm.f k m wd (p0 ++ List.replicate c true)).bind fun s => if s = true then spec_WorstDays.l0 k l n (p0 ++ List.replicate c true ++ [s]) m wd else spec_WorstDays.l0 k l (n - 1) (p0 ++ List.replicate c true ++ [s]) m wd := by
        intro k
        simp only [spec_WorstDays.l0, Option.bind_some]
        rw [if_pos q, wrapId (n := n - 1) (by omega) (by omega)]
        congr 1
        funext s
        rw [if_pos (by omega)]
      refine Ev.step st (Ev.bind (spec_MayStorm_ev hr (by omega)) ?_)
      simp only [worstS]
      rw [if_pos q]
      by_cases g : mayS m wd (p0 ++ List.replicate c true) = true
      · have lt := mayS_run hr hc g
        have := ih n p0 (c + 1) (by omega) hn (by omega) (by omega) (by omega)
        rw [List.replicate_succ', ← List.append_assoc] at this
        rw [g]
        refine evPos rfl ?_
        rw [if_pos rfl]
        rw [show ((p0.length + (c + 1) : Nat) : Int) - (l.length : Int) + worstS m wd d n (p0 ++ List.replicate c true ++ [true]) = ((p0.length + c : Nat) : Int) - (l.length : Int) + (1 + worstS m wd d n (p0 ++ List.replicate c true ++ [true])) by omega] at this
        exact this
      · have := ih (n - 1) (p0 ++ List.replicate c true ++ [false]) 0 (by omega) (by omega) (by omega) (by rw [List.length_append, pl, List.length_singleton]; omega) (by rw [List.length_append, pl, List.length_singleton]; omega)
        rw [List.replicate_zero, List.append_nil, List.length_append, pl, List.length_singleton] at this
        rw [Bool.eq_false_iff.2 g]
        refine evNeg (by simp) ?_
        rw [if_neg (by simp)]
        rw [show ((p0.length + c + 1 + 0 : Nat) : Int) - (l.length : Int) + worstS m wd d (n - 1) (p0 ++ List.replicate c true ++ [false]) = ((p0.length + c : Nat) : Int) - (l.length : Int) + (1 + worstS m wd d (n - 1) (p0 ++ List.replicate c true ++ [false])) by omega] at this
        exact this
    · refine Ev.step (f := fun _ => some (((p0.length + c : Nat) : Int) - (l.length : Int))) (fun k => ?_) ?_
      · simp only [spec_WorstDays.l0]
        rw [if_neg q, pl, wrapId (n := ((p0.length + c : Nat) : Int) - (l.length : Int)) (by omega) (by omega)]
      · simp only [worstS]
        rw [if_neg q, Int.add_zero]
        exact Ev.now _
theorem impl_worst_loop {m wd : Int} (hr : isRule m wd) : ∀ (d : Nat) (n days : Int) (p0 q : List Bool) (c : Nat), (c : Int) ≤ m → 0 ≤ n → n * 11 + (m - (c : Int)) < (d : Int) → q.length ≤ 1000 → 0 ≤ days → days + (d : Int) ≤ 10000 → tailS 9 q = tailS 9 (p0 ++ List.replicate c true) →
    Ev (fun k => impl_WorstDays.l0 k q n days m wd) (days + worstS m wd d n (p0 ++ List.replicate c true)) := by
  have hm := hr.2
  have hw := hr.1
  intro d
  induction d with
  | zero =>
    intro n days p0 q c hc hn hd _ _ _ _
    omega
  | succ d ih =>
    intro n days p0 q c hc hn hd hq h0 h1 ht
    by_cases g0 : n > 0
    · have me : mayS m wd q = mayS m wd (p0 ++ List.replicate c true) := by
        unfold mayS
        rw [← tailS_tail (show (wd - 1).toNat ≤ 9 by omega) q, ht, tailS_tail (by omega)]
      have st : ∀ k, impl_WorstDays.l0 (k + 1) q n days m wd = (impl_MayStorm.f k m wd q).bind fun s => if s = true then impl_WorstDays.l0 k (tailS 10 (q ++ [s])) n (days + 1) m wd else impl_WorstDays.l0 k (tailS 10 (q ++ [s])) (n - 1) (days + 1) m wd := by
        intro k
        simp only [impl_WorstDays.l0]
        rw [if_pos g0, wrapId (n := n - 1) (by omega) (by omega), wrapId (n := days + 1) (by omega) (by omega)]
        congr 1
        funext s
        simp only [impl_AddDay_eq (show q.length ≤ 10000000 by omega), Option.bind_some]
      have tl : ∀ s : Bool, (tailS 10 (q ++ [s])).length ≤ 1000 := by
        intro s
        unfold tailS
        rw [List.length_drop, List.length_append, List.length_singleton]
        omega
      have tt : ∀ s : Bool, tailS 9 (tailS 10 (q ++ [s])) = tailS 9 (p0 ++ List.replicate c true ++ [s]) := by
        intro s
        rw [tailS_tail (by omega), tailS_snoc 8, tailS_snoc 8, ← tailS_tail (show 8 ≤ 9 by omega) q, ht, tailS_tail (by omega)]
      refine Ev.step st (Ev.bind (impl_MayStorm_ev hr (by omega)) ?_)
      rw [me]
      simp only [worstS]
      rw [if_pos g0]
      by_cases g : mayS m wd (p0 ++ List.replicate c true) = true
      · have lt := mayS_run hr hc g
        have := ih n (days + 1) p0 (tailS 10 (q ++ [true])) (c + 1) (by omega) hn (by omega) (tl true) (by omega) (by omega) (by rw [tt true, List.replicate_succ', List.append_assoc])
        rw [List.replicate_succ', ← List.append_assoc] at this
        rw [g]
        refine evPos rfl ?_
        rw [if_pos rfl, ← Int.add_assoc]
        exact this
      · have := ih (n - 1) (days + 1) (p0 ++ List.replicate c true ++ [false]) (tailS 10 (q ++ [false])) 0 (by omega) (by omega) (by omega) (tl false) (by omega) (by omega) (by rw [tt false, List.replicate_zero, List.append_nil])
        rw [List.replicate_zero, List.append_nil] at this
        rw [Bool.eq_false_iff.2 g]
        refine evNeg (by simp) ?_
        rw [if_neg (by simp), ← Int.add_assoc]
        exact this
    · refine Ev.step (f := fun _ => some days) (fun k => ?_) ?_
      · simp only [impl_WorstDays.l0]
        rw [if_neg g0]
      · simp only [worstS]
        rw [if_neg g0, Int.add_zero]
        exact Ev.now _
def worstRes (m wd : Int) (p : List Bool) (n : Int) : Int := if isRule m wd ∧ (0 ≤ n ∧ n ≤ 200) ∧ p.length ≤ 400 then worstS m wd 2300 n p else -1
theorem worstRes_le (m wd : Int) (p : List Bool) (n : Int) : -1 ≤ worstRes m wd p n ∧ worstRes m wd p n ≤ 2300 := by
  unfold worstRes
  have := worstS_pos m wd 2300 n p
  split <;> omega
theorem impl_WorstDays_ev (m wd : Int) (p : List Bool) (n : Int) : Ev (fun k => impl_WorstDays.f k m wd p n) (worstRes m wd p n) := by
  have no : ¬ (isRule m wd ∧ (0 ≤ n ∧ n ≤ 200) ∧ p.length ≤ 400) → Ev (fun k => impl_WorstDays.j0 k p n true m wd) (worstRes m wd p n) := by
    intro q
    unfold worstRes
    rw [if_neg q]
    refine Ev.step (f := fun _ => some (-1)) (fun k => ?_) (Ev.now _)
    simp only [impl_WorstDays.j0, if_true]
  unfold impl_WorstDays.f
  simp only [impl_IsRule_eq, inRange_eq, Option.bind_some]
  by_cases r : isRule m wd
  · refine evPos (decide_eq_true r) ?_
    by_cases b : 0 ≤ n ∧ n ≤ 200
    · refine evPos (decide_eq_true b) ?_
      by_cases q : p.length ≤ 400
      · rw [decide_eq_false (show ¬ (p.length : Int) > 400 by omega)]
        have hm := r.2
        have hw := r.1
        have := impl_worst_loop r 2300 n 0 p p 0 (by omega) b.1 (by omega) (by omega) (by omega) (by omega) (by rw [List.replicate_zero, List.append_nil])
        rw [List.replicate_zero, List.append_nil, Int.zero_add] at this
        unfold worstRes
        rw [if_pos ⟨r, b, q⟩]
        refine Ev.step (fun k => ?_) this
        simp only [impl_WorstDays.j0, Bool.false_eq_true, if_false]
      · rw [decide_eq_true (show (p.length : Int) > 400 by omega)]
        exact no (fun z => q z.2.2)
    · exact evNeg (by rw [decide_eq_true_eq]; exact b) (no (fun z => b z.2.1))
  · exact evNeg (by rw [decide_eq_true_eq]; exact r) (no (fun z => r z.1))
theorem spec_WorstDays_ev (m wd : Int) (p : List Bool) (n : Int) : Ev (fun k => spec_WorstDays.f k m wd p n) (worstRes m wd p n) := by
  have no : ¬ (isRule m wd ∧ (0 ≤ n ∧ n ≤ 200) ∧ p.length ≤ 400) → Ev (fun k => spec_WorstDays.j0 k p n true m wd) (worstRes m wd p n) := by
    intro q
    unfold worstRes
    rw [if_neg q]
    refine Ev.step (f := fun _ => some (-1)) (fun k => ?_) (Ev.now _)
    simp only [spec_WorstDays.j0, if_true]
  unfold spec_WorstDays.f
  simp only [spec_IsRule_eq, l1In_eq, Option.bind_some]
  by_cases r : isRule m wd
  · refine evPos (decide_eq_true r) ?_
    by_cases b : 0 ≤ n ∧ n ≤ 200
    · refine evPos (decide_eq_true b) ?_
      by_cases q : p.length ≤ 400
      · rw [decide_eq_false (show ¬ (p.length : Int) > 400 by omega)]
        have hm := r.2
        have hw := r.1
        have := spec_worst_loop r p 2300 n p 0 (by omega) b.1 (by omega) (by omega) (by omega)
        rw [List.replicate_zero, List.append_nil, Nat.add_zero, Int.sub_self, Int.zero_add] at this
        unfold worstRes
        rw [if_pos ⟨r, b, q⟩]
        refine Ev.step (fun k => ?_) this
        simp only [spec_WorstDays.j0, Bool.false_eq_true, if_false, Option.bind_some, List.length_nil, Nat.zero_add, List.nil_append]
        rw [if_pos (by omega)]
      · rw [decide_eq_true (show (p.length : Int) > 400 by omega)]
        exact no (fun z => q z.2.2)
    · exact evNeg (by rw [decide_eq_true_eq]; exact b) (no (fun z => b z.2.1))
  · exact evNeg (by rw [decide_eq_true_eq]; exact r) (no (fun z => r z.1))

def needHome (w h : Int) (c : List Int) (base m wd a f : Int) (l : List S95) (p : List Bool) : Int := if isParty w h c a f l p = true ∧ ¬ daysS w h c a base < 0 ∧ ¬ worstRes m wd p (daysS w h c a base) < 0 then worstRes m wd p (daysS w h c a base) * needOf l else -1
theorem impl_NeedHome_ev (w h : Int) (c : List Int) (base m wd a f : Int) {l : List S95} (p : List Bool) (hl : l.length ≤ 100000000) : Ev (fun k => impl_NeedHome.f k w h c base m wd a f l p) (needHome w h c base m wd a f l p) := by
  unfold impl_NeedHome.f needHome
  have no : ∀ d, Ev (fun k => impl_NeedHome.j0 k d true m wd a f l p) (-1) := by
    intro d
    refine Ev.step (f := fun _ => some (-1)) (fun k => ?_) (Ev.now _)
    simp only [impl_NeedHome.j0, if_true]
  refine Ev.bind (impl_Days_ev w h c a base) (Ev.bind (impl_IsParty_ev w h c a f p hl) ?_)
  generalize daysS w h c a base = d
  by_cases ip : isParty w h c a f l p = true
  · refine evPos ip ?_
    by_cases hd : d < 0
    · rw [decide_eq_true hd, if_neg (fun z => z.2.1 hd)]
      exact no d
    · rw [decide_eq_false hd]
      have wl := worstRes_le m wd p d
      refine Ev.step (f := fun k => (impl_WorstDays.f k m wd p d).bind fun t => if t < 0 then some (-1) else (impl_NeedOf.f k l).bind fun n => some (wrap64 (t * n))) (fun k => ?_) (Ev.bind (impl_WorstDays_ev m wd p d) ?_)
      · simp only [impl_NeedHome.j0, Bool.false_eq_true, if_false]
      · by_cases hw : worstRes m wd p d < 0
        · rw [if_neg (fun z => z.2.2 hw)]
          exact evPos hw (Ev.now _)
        · rw [if_pos ⟨ip, hd, hw⟩]
          refine evNeg hw (Ev.bind (impl_NeedOf_ev hl) ?_)
          have nb : 0 ≤ needOf l ∧ needOf l ≤ 80 := by
            by_cases cc : areCrew l = true
            · have := needOf_crew cc
              omega
            · rw [needOf_none cc]
              omega
          have b0 : 0 ≤ worstRes m wd p d * needOf l := Int.mul_nonneg (by omega) nb.1
          have b1 : worstRes m wd p d * needOf l ≤ 2300 * 80 := Int.mul_le_mul wl.2 nb.2 nb.1 (by omega)
          rw [wrapId (by omega) (by omega)]
          exact Ev.now _
  · rw [if_neg (fun z => ip z.1)]
    exact evNeg ip (no d)
theorem spec_NeedHome_ev (w h : Int) (c : List Int) (base m wd a f : Int) {l : List S95} (p : List Bool) (hl : l.length ≤ 100000000) : Ev (fun k => spec_NeedHome.f k w h c base m wd a f l p) (needHome w h c base m wd a f l p) := by
  unfold spec_NeedHome.f needHome
  refine Ev.bind (spec_Days_ev w h c a base) (Ev.bind (spec_WorstDays_ev m wd p _) (Ev.bind (spec_IsParty_ev w h c a f p hl) ?_))
  generalize daysS w h c a base = d
  have wl := worstRes_le m wd p d
  by_cases ip : isParty w h c a f l p = true
  · refine evPos ip ?_
    by_cases hd : d < 0
    · rw [if_neg (fun z => z.2.1 hd)]
      exact evPos hd (Ev.now _)
    · refine evNeg hd ?_
      by_cases hw : worstRes m wd p d < 0
      · rw [if_neg (fun z => z.2.2 hw)]
        exact evPos hw (Ev.now _)
      · rw [if_pos ⟨ip, hd, hw⟩]
        refine evNeg hw (Ev.bind (spec_NeedOf_ev hl) ?_)
        have nb : 0 ≤ needOf l ∧ needOf l ≤ 80 := by
          by_cases cc : areCrew l = true
          · have := needOf_crew cc
            omega
          · rw [needOf_none cc]
            omega
        have b0 : 0 ≤ worstRes m wd p d * needOf l := Int.mul_nonneg (by omega) nb.1
        have b1 : worstRes m wd p d * needOf l ≤ 2300 * 80 := Int.mul_le_mul wl.2 nb.2 nb.1 (by omega)
        rw [Int.mul_comm, wrapId (by omega) (by omega)]
        exact Ev.now _
  · rw [if_neg (fun z => ip z.1)]
    exact evNeg ip (Ev.now _)
def okS97 (x : S97) : Prop := (Lit.int .i64 x.f0).wf = true ∧ (Lit.int .i64 x.f1).wf = true ∧ (Lit.int .i64 x.f2).wf = true ∧ True
def FnExactNeedHome.Claim : Prop := ∀ (a0_0 : Int) (a0_1 : Int) (l0_2 : List (Int)) (a1 : Int) (a2_0 : Int) (a2_1 : Int) (a3_0 : Int) (a3_1 : Int) (l3_2 : List (S97)) (l3_3 : List (Bool)), (Lit.int .i64 a0_0).wf = true → (Lit.int .i64 a0_1).wf = true → l0_2.length ≤ maxLen → (∀ x ∈ l0_2, (Lit.int .i64 x).wf = true) → (Lit.int .i64 a1).wf = true → (Lit.int .i64 a2_0).wf = true → (Lit.int .i64 a2_1).wf = true → (Lit.int .i64 a3_0).wf = true → (Lit.int .i64 a3_1).wf = true → l3_2.length ≤ maxLen → (∀ x ∈ l3_2, okS97 x) → l3_3.length ≤ maxLen → (∀ x ∈ l3_3, True) → ∃ k, laws_FnExactNeedHome.f k a0_0 a0_1 l0_2 a1 a2_0 a2_1 a3_0 a3_1 l3_2 l3_3 = some true
theorem FnExactNeedHome : FnExactNeedHome.Claim := by
  intro w h c base m wd a f l p _ _ hc _ _ _ _ _ _ hm _ hp _
  apply Ev.rounds
  unfold laws_FnExactNeedHome.f
  rw [szLand_ok hc (by omega) (by omega)]
  simp only [Option.bind_some]
  by_cases qc : (c.length : Int) ≤ 1048576
  · rw [if_pos qc]
    refine evNeg (by omega) ?_
    rw [szParty_ok hm hp (by omega) (by omega)]
    simp only [Option.bind_some]
    by_cases ql : (l.length : Int) + (p.length : Int) ≤ 1048576 - (c.length : Int)
    · rw [if_pos ql]
      refine evNeg (by omega) ?_
      have hcl : c.length ≤ 1048576 := by omega
      have hl : l.length ≤ 1048576 := by omega
      have hp' : p.length ≤ 1048576 := by omega
      have hl' : (l.map mem).length ≤ 1048576 := by rw [List.length_map]; exact hl
      have h8 : (l.map mem).length ≤ 100000000 := by omega
      simp only [laws_toRule.f, Option.bind_some]
      exact Ev.bind (toLand_ev hcl) (Ev.bind (toParty_ev hl hp') (Ev.bind (spec_NeedHome_ev w h c base m wd a f p h8) (Ev.bind (toLand_ev hcl) (Ev.bind (toParty_ev hl hp') (Ev.bind (impl_NeedHome_ev w h c base m wd a f p h8) (evPos rfl (Ev.bind (toLand_ev hcl) (Ev.bind (eqLand_same hcl) (evPos rfl (Ev.bind (toParty_ev hl hp') (Ev.bind (eqParty_same hl' hp') (evPos rfl (Ev.now _)))))))))))))
    · rw [if_neg ql]
      exact evPos (by omega) (Ev.now _)
  · rw [if_neg qc]
    exact evPos (by omega) (Ev.now _)
end Go.Proofs.Ytdgpnmbmnnmdcab.Pure
