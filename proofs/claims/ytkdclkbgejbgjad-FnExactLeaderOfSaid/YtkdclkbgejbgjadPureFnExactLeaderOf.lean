/- For every list of members and every team, the program's LeaderOf and the reference's give the same answer: the law's Go function answers true. No condition beyond the kinds of the numbers. -/
import Derived.Test.YtkdclkbgejbgjadPFnExactLeaderOfx3
import Derived.Test.YtkdclkbgejbgjadAid
namespace Go.Proofs.Ytkdclkbgejbgjad.Pure
open Go.RowKit Go.Proofs.Ytkdclkbgejbgjad.PFnExactLeaderOf Go.Proofs.Ytkdclkbgejbgjad.Aid Go.Proofs.YtkdclkbgejbgjadW.PrintWords Go.Proofs.YtkdclkbgejbgjadW.PrintLast Go.Proofs.YtkdclkbgejbgjadW.PrintMore
set_option linter.unusedVariables false
set_option linter.unusedSimpArgs false
theorem szMemberS_ok {l : List S59} {q : Int} (hl : l.length ≤ maxLen) (h0 : 0 ≤ q) (h1 : q ≤ 1048576) : laws_szMemberS.f l q = some (if (l.length : Int) ≤ q then q - (l.length : Int) else -1) := by
  unfold laws_szMemberS.f
  unfold maxLen at hl
  rw [wrapId (n := q - (l.length : Int)) (by omega) (by omega)]
  by_cases c : (l.length : Int) ≤ q
  · rw [if_neg (by omega), if_pos c]
  · rw [if_pos (by omega), if_neg c]

def mem (x : S59) : S57 := ⟨x.f0, x.f1, x.f2, x.f3⟩
theorem rdM {xs : List S57} {i : Nat} (h : i < xs.length) : rd_T57 xs (i : Int) = xs[i] := by
  unfold rd_T57
  rw [Int.toNat_natCast, getD_lt h]
theorem rdLM {xs : List S59} {i : Nat} (h : i < xs.length) : rd_T59 xs (i : Int) = xs[i] := by
  unfold rd_T59
  rw [Int.toNat_natCast, getD_lt h]
theorem toMemberS_ev {l : List S59} (hl : l.length ≤ 1048576) : Ev (fun k => laws_toMemberS.f k l) (l.map mem) := by
  have key := evScan l (fun k (acc : List S57) i => laws_toMemberS.l0 k l acc i) (fun _ _ _ => l.map mem) (fun acc i => acc.length = (l.map mem).length ∧ acc.take i = (l.map mem).take i) (fun acc ⟨h0, h1⟩ => by
      refine Ev.step (f := fun _ => some acc) (fun k => ?_) ?_
      · simp only [laws_toMemberS.l0]
        rw [if_neg (by omega)]
      · rw [take_whole h0 (by rw [List.length_map]; exact h1)]
        exact Ev.now _) (fun acc i t h ht ⟨h0, h1⟩ ih => by
      have hm : i < (l.map mem).length := by rw [List.length_map]; exact h
      have hs := take_set_succ hm h0 h1
      rw [List.length_map] at h0
      refine Ev.step (fun k => ?_) (ih (acc.set i (l.map mem)[i]) ⟨by simpa using h0, hs⟩)
      simp only [laws_toMemberS.l0, laws_toMember.f, Option.bind_some]
      rw [if_pos (by omega), if_pos (by omega), if_pos (by omega), rdLM h, wrapSucc (by omega), toNatCast, List.getElem_map]
      rfl)
    (List.replicate l.length z57) ⟨by simp, by simp⟩
  refine Ev.congr (fun k => ?_) key
  simp only [laws_toMemberS.f]
  rw [if_pos (by omega), if_pos (by omega), toNatCast]

theorem eqMemberS_same {a : List S57} (ha : a.length ≤ 1048576) : Ev (fun k => laws_eqMemberS.f k a a) true := by
  have key := evScan a (fun k (_ : Unit) i => laws_eqMemberS.l0 k a a i) (fun _ _ _ => true) (fun _ _ => True) (fun _ _ => by
      refine Ev.step (f := fun _ => some true) (fun k => ?_) (Ev.now _)
      simp only [laws_eqMemberS.l0]
      rw [if_neg (by omega)]) (fun _ i t h _ _ ih => by
      refine Ev.step (fun k => ?_) (ih () trivial)
      simp only [laws_eqMemberS.l0, laws_eqMember.f, if_true, bne_self_eq_false, Bool.false_eq_true, if_false, Option.bind_some]
      rw [if_pos (by omega), if_pos (by omega), if_pos (by omega), wrapSucc (by omega)])
    () trivial
  refine Ev.congr (fun k => ?_) key
  simp only [laws_eqMemberS.f, if_true]

theorem toIntS_ev {l : List Int} (hl : l.length ≤ 1048576) : Ev (fun k => laws_toIntS.f k l) l := by
  have key := evScan l (fun k (acc : List Int) i => laws_toIntS.l0 k l acc i) (fun _ _ _ => l) (fun acc i => acc.length = l.length ∧ acc.take i = l.take i) (fun acc ⟨h0, h1⟩ => by
      refine Ev.step (f := fun _ => some acc) (fun k => ?_) ?_
      · simp only [laws_toIntS.l0]
        rw [if_neg (by omega)]
      · rw [take_whole h0 h1]
        exact Ev.now _) (fun acc i t h ht ⟨h0, h1⟩ ih => by
      refine Ev.step (fun k => ?_) (ih (acc.set i l[i]) ⟨by simpa using h0, take_set_succ h h0 h1⟩)
      simp only [laws_toIntS.l0]
      rw [if_pos (by omega), if_pos (by omega), if_pos (by omega), rdIn h, wrapSucc (by omega), toNatCast])
    (List.replicate l.length 0) ⟨by simp, by simp⟩
  refine Ev.congr (fun k => ?_) key
  simp only [laws_toIntS.f]
  rw [if_pos (by omega), if_pos (by omega), toNatCast]

theorem eqIntS_ev {a b : List Int} (ha : a.length ≤ 1048576) : Ev (fun k => laws_eqIntS.f k a b) (decide (a = b)) := by
  by_cases e : a.length = b.length
  · have key := evScan a (fun k (_ : Unit) i => laws_eqIntS.l0 k a b i) (fun _ i t => decide (t = b.drop i)) (fun _ _ => True) (fun _ _ => by
        refine Ev.step (f := fun _ => some true) (fun k => ?_) ?_
        · simp only [laws_eqIntS.l0]
          rw [if_neg (by omega)]
        · rw [e, List.drop_length]
          exact Ev.now _) (fun _ i t h ht _ ih => by
        have hb : i < b.length := by omega
        have st : ∀ k, laws_eqIntS.l0 (k + 1) a b (i : Int) = if a[i] = b[i] then laws_eqIntS.l0 k a b ((i + 1 : Nat) : Int) else some false := by
          intro k
          simp only [laws_eqIntS.l0]
          rw [if_pos (by omega), if_pos (by omega), if_pos (by omega), rdIn h, rdIn hb, wrapSucc (by omega)]
        refine Ev.step st ?_
        rw [List.drop_eq_getElem_cons hb]
        by_cases c : a[i] = b[i]
        · refine evPos c ?_
          rw [show decide (a[i] :: t = b[i] :: b.drop (i + 1)) = decide (t = b.drop (i + 1)) by rw [decide_eq_decide, List.cons.injEq, and_iff_right c]]
          exact ih () trivial
        · refine evNeg c ?_
          rw [show decide (a[i] :: t = b[i] :: b.drop (i + 1)) = false by rw [decide_eq_false_iff_not, List.cons.injEq]; exact fun e => c e.1]
          exact Ev.now _)
      () trivial
    refine Ev.congr (fun k => ?_) key
    simp only [laws_eqIntS.f]
    rw [if_pos (by omega)]
  · have ne : ¬ a = b := fun h => e (by rw [h])
    refine Ev.congr (f := fun _ => some (decide (a = b))) (fun k => ?_) (Ev.now _)
    simp only [laws_eqIntS.f]
    rw [if_neg (by omega), decide_eq_false ne]
theorem eqIntS_same {a : List Int} (ha : a.length ≤ 1048576) : Ev (fun k => laws_eqIntS.f k a a) true := by
  have := eqIntS_ev (a := a) (b := a) ha
  rwa [decide_eq_true rfl] at this


/-- The index of the first member of that number, the first of the list standing at i; -1 if there is none. -/
def findM (n : Int) : Nat → List S57 → Int
  | _, [] => -1
  | i, m :: t => if m.f0 = n then (i : Int) else findM n (i + 1) t
theorem findM_lt (n : Int) : ∀ (t : List S57) (i : Nat), findM n i t = -1 ∨ ((i : Int) ≤ findM n i t ∧ findM n i t < (i : Int) + (t.length : Int))
  | [], i => .inl rfl
  | m :: t, i => by
    simp only [findM, List.length_cons]
    split
    · right
      omega
    · rcases findM_lt n t (i + 1) with e | e
      · exact .inl e
      · right
        omega

/-- Where the better one stands: the one that was best (-1: none), or the one at k (-1: none). -/
def better (l : List S57) (best k : Int) : Int := if 0 ≤ k ∧ (best < 0 ∨ (rd_T57 l best).f1 < (rd_T57 l k).f1) then k else best
def bestOf (l : List S57) : Int → List Int → Int
  | b, [] => b
  | b, n :: t => bestOf l (better l b (findM n 0 l)) t
def pick (l : List S57) (b : Int) : Int := if b < 0 then 0 else (rd_T57 l b).f0
def leaderOf (l : List S57) (team : List Int) : Int := pick l (bestOf l (-1) team)
def bestOk (l : List S57) (b : Int) : Prop := -1 ≤ b ∧ b < (l.length : Int)
theorem better_ok {l : List S57} {b : Int} (n : Int) (hb : bestOk l b) : bestOk l (better l b (findM n 0 l)) := by
  unfold better
  split
  · unfold bestOk at *
    have := findM_lt n l 0
    omega
  · exact hb
theorem bestOf_ok {l : List S57} : ∀ (t : List Int) (b : Int), bestOk l b → bestOk l (bestOf l b t)
  | [], b, hb => hb
  | n :: t, b, hb => bestOf_ok t _ (better_ok n hb)
theorem leaderLoop {l : List S57} {team : List Int} (ht : team.length ≤ 100000000) (g : Nat → Int → Option Int) (hg : ∀ n, Ev (fun k => g k n) (findM n 0 l)) (lp : Nat → Int → Int → Option Int)
    (hend : ∀ k b, lp (k + 1) b (team.length : Int) = if b < 0 then some 0 else if 0 ≤ b then if b < (l.length : Int) then some (rd_T57 l b).f0 else none else none)
    (hstep : ∀ k b (i : Nat) (h : i < team.length), lp (k + 1) b (i : Int) = (g k team[i]).bind fun t => if t ≥ 0 then (if b < 0 then lp k t ((i + 1 : Nat) : Int) else (if 0 ≤ t then (if t < (l.length : Int) then (if 0 ≤ b then (if b < (l.length : Int) then (if (rd_T57 l t).f1 > (rd_T57 l b).f1 then lp k t ((i + 1 : Nat) : Int) else lp k b ((i + 1 : Nat) : Int)) else none) else none) else none) else none)) else lp k b ((i + 1 : Nat) : Int)) :
    Ev (fun k => lp k (-1) 0) (leaderOf l team) := by
  have key := evScan team lp (fun b _ t => pick l (bestOf l b t)) (fun b _ => bestOk l b) (fun b hb => by
      unfold bestOk at hb
      refine Ev.step (fun k => hend k b) ?_
      simp only [bestOf]
      unfold pick
      by_cases c : b < 0
      · simp only [if_pos c]
        exact Ev.now _
      · simp only [if_neg c]
        exact evPos (by omega) (evPos (by omega) (Ev.now _))) (fun b i t h _ hb ih => by
      refine Ev.step (fun k => hstep k b i h) (Ev.bind (hg _) ?_)
      have hl := findM_lt team[i] l 0
      have ih := ih _ (better_ok team[i] hb)
      simp only [bestOf]
      unfold bestOk at hb
      by_cases c0 : findM team[i] 0 l ≥ 0
      · refine evPos c0 ?_
        by_cases c1 : b < 0
        · refine evPos c1 ?_
          have e : better l b (findM team[i] 0 l) = findM team[i] 0 l := by unfold better; rw [if_pos ⟨c0, .inl c1⟩]
          rw [e] at ih ⊢
          exact ih
        · refine evNeg c1 (evPos (by omega) (evPos (by omega) (evPos (by omega) (evPos (by omega) ?_))))
          by_cases c2 : (rd_T57 l (findM team[i] 0 l)).f1 > (rd_T57 l b).f1
          · refine evPos c2 ?_
            have e : better l b (findM team[i] 0 l) = findM team[i] 0 l := by unfold better; rw [if_pos ⟨c0, .inr c2⟩]
            rw [e] at ih ⊢
            exact ih
          · refine evNeg c2 ?_
            have e : better l b (findM team[i] 0 l) = b := by
              unfold better
              rw [if_neg]
              rintro ⟨_, x | x⟩
              · exact c1 x
              · exact c2 x
            rw [e] at ih ⊢
            exact ih
      · refine evNeg c0 ?_
        have e : better l b (findM team[i] 0 l) = b := by
          unfold better
          rw [if_neg]
          rintro ⟨x, _⟩
          exact c0 x
        rw [e] at ih ⊢
        exact ih)
    (-1) (by unfold bestOk; omega)
  exact key

theorem impl_memberOf_ev {l : List S57} (n : Int) (hl : l.length ≤ 100000000) : Ev (fun k => impl_memberOf.f k l n) (findM n 0 l) := by
  have key := evScan l (fun k (_ : Unit) i => impl_memberOf.l0 k n l (l.length : Int) i) (fun _ i t => findM n i t) (fun _ _ => True) (fun _ _ => by
      refine Ev.step (f := fun _ => some (-1)) (fun k => ?_) (Ev.now _)
      simp only [impl_memberOf.l0]
      rw [if_neg (by omega)]) (fun _ i t h _ _ ih => by
      have st : ∀ k, impl_memberOf.l0 (k + 1) n l (l.length : Int) (i : Int) = if l[i].f0 = n then some (i : Int) else impl_memberOf.l0 k n l (l.length : Int) ((i + 1 : Nat) : Int) := by
        intro k
        simp only [impl_memberOf.l0]
        rw [if_pos (by omega), if_pos (by omega), if_pos (by omega), rdM h, wrapSucc (by omega)]
      refine Ev.step st ?_
      simp only [findM]
      by_cases d : l[i].f0 = n
      · rw [if_pos d]
        exact evPos d (Ev.now _)
      · rw [if_neg d]
        exact evNeg d (ih () trivial))
    () trivial
  unfold impl_memberOf.f
  exact key

theorem impl_LeaderOf_ev {l : List S57} {team : List Int} (hl : l.length ≤ 100000000) (ht : team.length ≤ 100000000) : Ev (fun k => impl_LeaderOf.f k l team) (leaderOf l team) := by
  unfold impl_LeaderOf.f
  refine leaderLoop ht (fun k n => impl_memberOf.f k l n) (fun n => impl_memberOf_ev n hl) (fun k b i => impl_LeaderOf.l0 k l b team (team.length : Int) i) (fun k b => ?_) (fun k b i h => ?_)
  · simp only [impl_LeaderOf.l0]
    rw [if_neg (by omega)]
  · simp only [impl_LeaderOf.l0]
    rw [if_pos (by omega), if_pos (by omega), if_pos (by omega), rdIn h, wrapSucc (by omega)]

theorem spec_l16Find_ev {l : List S57} (n : Int) (hl : l.length ≤ 100000000) : Ev (fun k => spec_l16Find.f k l n) (findM n 0 l) := by
  have key := evScan l (fun k (_ : Unit) i => spec_l16Find.l0 k l n i) (fun _ i t => findM n i t) (fun _ _ => True) (fun _ _ => by
      refine Ev.step (f := fun _ => some (-1)) (fun k => ?_) (Ev.now _)
      simp only [spec_l16Find.l0]
      rw [if_neg (by omega)]) (fun _ i t h _ _ ih => by
      have st : ∀ k, spec_l16Find.l0 (k + 1) l n (i : Int) = if l[i].f0 = n then some (i : Int) else spec_l16Find.l0 k l n ((i + 1 : Nat) : Int) := by
        intro k
        simp only [spec_l16Find.l0]
        rw [if_pos (by omega), if_pos (by omega), rdM h, wrapSucc (by omega)]
      refine Ev.step st ?_
      simp only [findM]
      by_cases d : l[i].f0 = n
      · rw [if_pos d]
        exact evPos d (Ev.now _)
      · rw [if_neg d]
        exact evNeg d (ih () trivial))
    () trivial
  unfold spec_l16Find.f
  exact key

theorem spec_LeaderOf_ev {l : List S57} {team : List Int} (hl : l.length ≤ 100000000) (ht : team.length ≤ 100000000) : Ev (fun k => spec_LeaderOf.f k l team) (leaderOf l team) := by
  unfold spec_LeaderOf.f
  refine leaderLoop ht (fun k n => spec_l16Find.f k l n) (fun n => spec_l16Find_ev n hl) (fun k b i => spec_LeaderOf.l0 k l team b i) (fun k b => ?_) (fun k b i h => ?_)
  · simp only [spec_LeaderOf.l0]
    rw [if_neg (by omega)]
  · simp only [spec_LeaderOf.l0]
    rw [if_pos (by omega), if_pos (by omega), rdIn h, wrapSucc (by omega)]

def okS59 (x : S59) : Prop := (Lit.int .i64 x.f0).wf = true ∧ (Lit.int .i64 x.f1).wf = true ∧ (Lit.int .i64 x.f2).wf = true ∧ True
def FnExactLeaderOf.Claim : Prop := ∀ (l0 : List (S59)) (l1 : List (Int)), l0.length ≤ maxLen → (∀ x ∈ l0, okS59 x) → l1.length ≤ maxLen → (∀ x ∈ l1, (Lit.int .i64 x).wf = true) → ∃ k, laws_FnExactLeaderOf.f k l0 l1 = some true
theorem FnExactLeaderOf : FnExactLeaderOf.Claim := by
  intro l team hm _ _ _
  apply Ev.rounds
  unfold laws_FnExactLeaderOf.f
  by_cases ct : (team.length : Int) > 1048576
  · exact evPos ct (Ev.now _)
  refine evNeg ct ?_
  have ht : team.length ≤ 1048576 := by omega
  rw [szMemberS_ok hm (by omega) (by omega)]
  simp only [Option.bind_some]
  by_cases c : (l.length : Int) ≤ 1048576
  · rw [if_pos c]
    refine evNeg (by omega) ?_
    have hl : l.length ≤ 1048576 := by omega
    have hl' : (l.map mem).length ≤ 1048576 := by rw [List.length_map]; exact hl
    refine Ev.bind (toMemberS_ev hl) (Ev.bind (toIntS_ev ht) (Ev.bind (spec_LeaderOf_ev (by omega) (by omega)) (Ev.bind (toMemberS_ev hl) (Ev.bind (toIntS_ev ht) (Ev.bind (impl_LeaderOf_ev (by omega) (by omega)) (evPos rfl ?_))))))
    refine Ev.bind (toMemberS_ev hl) (Ev.bind (eqMemberS_same hl') (evPos rfl (Ev.bind (toIntS_ev ht) (Ev.bind (eqIntS_same ht) (evPos rfl (Ev.now _))))))
  · rw [if_neg c]
    exact evPos (by omega) (Ev.now _)
end Go.Proofs.Ytkdclkbgejbgjad.Pure
