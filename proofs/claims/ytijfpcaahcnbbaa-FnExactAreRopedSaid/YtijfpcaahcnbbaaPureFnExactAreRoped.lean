/- For every list of members and every list of teams, the program's AreRoped and the reference's give the same answer: the law's Go function answers true. No condition beyond the kinds of the numbers. -/
import Derived.Test.YtijfpcaahcnbbaaPFnExactAreRopedx8
import Derived.Test.YtijfpcaahcnbbaaAid
namespace Go.Proofs.Ytijfpcaahcnbbaa.Pure
open Go.RowKit Go.Proofs.Ytijfpcaahcnbbaa.PFnExactAreRoped Go.Proofs.Ytijfpcaahcnbbaa.Aid Go.Proofs.YtijfpcaahcnbbaaW.PrintWords Go.Proofs.YtijfpcaahcnbbaaW.PrintLast Go.Proofs.YtijfpcaahcnbbaaW.PrintMore
set_option linter.unusedVariables false
set_option linter.unusedSimpArgs false
theorem szMemberS_ok {l : List S84} {q : Int} (hl : l.length ≤ maxLen) (h0 : 0 ≤ q) (h1 : q ≤ 1048576) : laws_szMemberS.f l q = some (if (l.length : Int) ≤ q then q - (l.length : Int) else -1) := by
  unfold laws_szMemberS.f
  unfold maxLen at hl
  rw [wrapId (n := q - (l.length : Int)) (by omega) (by omega)]
  by_cases c : (l.length : Int) ≤ q
  · rw [if_neg (by omega), if_pos c]
  · rw [if_pos (by omega), if_neg c]

theorem rdM {xs : List S82} {i : Nat} (h : i < xs.length) : rd_T82 xs (i : Int) = xs[i] := by
  unfold rd_T82
  rw [Int.toNat_natCast, getD_lt h]

def mem (x : S84) : S82 := ⟨x.f0, x.f1, x.f2, x.f3⟩
theorem rdLM {xs : List S84} {i : Nat} (h : i < xs.length) : rd_T84 xs (i : Int) = xs[i] := by
  unfold rd_T84
  rw [Int.toNat_natCast, getD_lt h]
theorem toMemberS_ev {l : List S84} (hl : l.length ≤ 1048576) : Ev (fun k => laws_toMemberS.f k l) (l.map mem) := by
  have key := evScan l (fun k (acc : List S82) i => laws_toMemberS.l0 k l acc i) (fun _ _ _ => l.map mem) (fun acc i => acc.length = (l.map mem).length ∧ acc.take i = (l.map mem).take i) (fun acc ⟨h0, h1⟩ => by
      refine Ev.step (f := fun _ => some acc) (fun k => ?_) ?_
      · simp only [laws_toMemberS.l0]
        rw [if_neg (by omega)]
      · rw [take_whole h0 (by rw [List.length_map]; exact h1)]
        exact Ev.now _) (fun acc i t h ht ⟨h0, h1⟩ ih => by
      have hm : i < (l.map mem).length := by rw [List.length_map]; exact h
      have hs := take_set_succ hm h0 h1
      rw [List.length_map] at h0
      refine Ev.step (fun k => ?_) (ih (acc.set i (l.map mem)[i]) ⟨by simpa using h0, hs⟩)
      simp only [laws_toMemberS.l0, laws_toMember.f, Option.bind_some]
      rw [if_pos (by omega), if_pos (by omega), if_pos (by omega), rdLM h, wrapSucc (by omega), toNatCast, List.getElem_map]
      rfl)
    (List.replicate l.length z82) ⟨by simp, by simp⟩
  refine Ev.congr (fun k => ?_) key
  simp only [laws_toMemberS.f]
  rw [if_pos (by omega), if_pos (by omega), toNatCast]

theorem eqMemberS_same {a : List S82} (ha : a.length ≤ 1048576) : Ev (fun k => laws_eqMemberS.f k a a) true := by
  have key := evScan a (fun k (_ : Unit) i => laws_eqMemberS.l0 k a a i) (fun _ _ _ => true) (fun _ _ => True) (fun _ _ => by
      refine Ev.step (f := fun _ => some true) (fun k => ?_) (Ev.now _)
      simp only [laws_eqMemberS.l0]
      rw [if_neg (by omega)]) (fun _ i t h _ _ ih => by
      refine Ev.step (fun k => ?_) (ih () trivial)
      simp only [laws_eqMemberS.l0, laws_eqMember.f, if_true, bne_self_eq_false, Bool.false_eq_true, if_false, Option.bind_some]
      rw [if_pos (by omega), if_pos (by omega), if_pos (by omega), wrapSucc (by omega)])
    () trivial
  refine Ev.congr (fun k => ?_) key
  simp only [laws_eqMemberS.f, if_true]

theorem toIntS_ev {l : List Int} (hl : l.length ≤ 1048576) : Ev (fun k => laws_toIntS.f k l) l := by
  have key := evScan l (fun k (acc : List Int) i => laws_toIntS.l0 k l acc i) (fun _ _ _ => l) (fun acc i => acc.length = l.length ∧ acc.take i = l.take i) (fun acc ⟨h0, h1⟩ => by
      refine Ev.step (f := fun _ => some acc) (fun k => ?_) ?_
      · simp only [laws_toIntS.l0]
        rw [if_neg (by omega)]
      · rw [take_whole h0 h1]
        exact Ev.now _) (fun acc i t h ht ⟨h0, h1⟩ ih => by
      refine Ev.step (fun k => ?_) (ih (acc.set i l[i]) ⟨by simpa using h0, take_set_succ h h0 h1⟩)
      simp only [laws_toIntS.l0]
      rw [if_pos (by omega), if_pos (by omega), if_pos (by omega), rdIn h, wrapSucc (by omega), toNatCast])
    (List.replicate l.length 0) ⟨by simp, by simp⟩
  refine Ev.congr (fun k => ?_) key
  simp only [laws_toIntS.f]
  rw [if_pos (by omega), if_pos (by omega), toNatCast]

theorem eqIntS_ev {a b : List Int} (ha : a.length ≤ 1048576) : Ev (fun k => laws_eqIntS.f k a b) (decide (a = b)) := by
  by_cases e : a.length = b.length
  · have key := evScan a (fun k (_ : Unit) i => laws_eqIntS.l0 k a b i) (fun _ i t => decide (t = b.drop i)) (fun _ _ => True) (fun _ _ => by
        refine Ev.step (f := fun _ => some true) (fun k => ?_) ?_
        · simp only [laws_eqIntS.l0]
          rw [if_neg (by omega)]
        · rw [e, List.drop_length]
          exact Ev.now _) (fun _ i t h ht _ ih => by
        have hb : i < b.length := by omega
        have st : ∀ k, laws_eqIntS.l0 (k + 1) a b (i : Int) = if a[i] = b[i] then laws_eqIntS.l0 k a b ((i + 1 : Nat) : Int) else some false := by
          intro k
          simp only [laws_eqIntS.l0]
          rw [if_pos (by omega), if_pos (by omega), if_pos (by omega), rdIn h, rdIn hb, wrapSucc (by omega)]
        refine Ev.step st ?_
        rw [List.drop_eq_getElem_cons hb]
        by_cases c : a[i] = b[i]
        · refine evPos c ?_
          rw [show decide (a[i] :: t = b[i] :: b.drop (i + 1)) = decide (t = b.drop (i + 1)) by rw [decide_eq_decide, List.cons.injEq, and_iff_right c]]
          exact ih () trivial
        · refine evNeg c ?_
          rw [show decide (a[i] :: t = b[i] :: b.drop (i + 1)) = false by rw [decide_eq_false_iff_not, List.cons.injEq]; exact fun e => c e.1]
          exact Ev.now _)
      () trivial
    refine Ev.congr (fun k => ?_) key
    simp only [laws_eqIntS.f]
    rw [if_pos (by omega)]
  · have ne : ¬ a = b := fun h => e (by rw [h])
    refine Ev.congr (f := fun _ => some (decide (a = b))) (fun k => ?_) (Ev.now _)
    simp only [laws_eqIntS.f]
    rw [if_neg (by omega), decide_eq_false ne]
theorem eqIntS_same {a : List Int} (ha : a.length ≤ 1048576) : Ev (fun k => laws_eqIntS.f k a a) true := by
  have := eqIntS_ev (a := a) (b := a) ha
  rwa [decide_eq_true rfl] at this


theorem rdL {xs : List (List Int)} {i : Nat} (h : i < xs.length) : rd_L3 xs (i : Int) = xs[i] := by
  unfold rd_L3
  rw [Int.toNat_natCast, getD_lt h]

theorem toIntSS_ev {l : List (List Int)} (hl : l.length ≤ 1048576) (hr : ∀ x ∈ l, x.length ≤ 1048576) : Ev (fun k => laws_toIntSS.f k l) l := by
  have key := evScan l (fun k (acc : List (List Int)) i => laws_toIntSS.l0 k l acc i) (fun _ _ _ => l) (fun acc i => acc.length = l.length ∧ acc.take i = l.take i) (fun acc ⟨h0, h1⟩ => by
      refine Ev.step (f := fun _ => some acc) (fun k => ?_) ?_
      · simp only [laws_toIntSS.l0]
        rw [if_neg (by omega)]
      · rw [take_whole h0 h1]
        exact Ev.now _) (fun acc i t h ht ⟨h0, h1⟩ ih => by
      have ih := ih (acc.set i l[i]) ⟨by simpa using h0, take_set_succ h h0 h1⟩
      refine Ev.step (f := fun k => (laws_toIntS.f k l[i]).bind fun z => laws_toIntSS.l0 k l (acc.set i z) ((i + 1 : Nat) : Int)) (fun k => ?_) (Ev.bind (toIntS_ev (hr _ (List.getElem_mem h))) ih)
      simp only [laws_toIntSS.l0]
      rw [if_pos (by omega), if_pos (by omega), rdL h, wrapSucc (by omega), toNatCast]
      congr 1
      funext z
      rw [if_pos (by omega)])
    (List.replicate l.length []) ⟨by simp, by simp⟩
  refine Ev.congr (fun k => ?_) key
  simp only [laws_toIntSS.f]
  rw [if_pos (by omega), if_pos (by omega), toNatCast]
theorem eqIntSS_same {a : List (List Int)} (ha : a.length ≤ 1048576) (hr : ∀ x ∈ a, x.length ≤ 1048576) : Ev (fun k => laws_eqIntSS.f k a a) true := by
  have key := evScan a (fun k (_ : Unit) i => laws_eqIntSS.l0 k a a i) (fun _ _ _ => true) (fun _ _ => True) (fun _ _ => by
      refine Ev.step (f := fun _ => some true) (fun k => ?_) (Ev.now _)
      simp only [laws_eqIntSS.l0]
      rw [if_neg (by omega)]) (fun _ i t h _ _ ih => by
      refine Ev.step (f := fun k => (laws_eqIntS.f k a[i] a[i]).bind fun z => if z = true then laws_eqIntSS.l0 k a a ((i + 1 : Nat) : Int) else some false) (fun k => ?_) (Ev.bind (eqIntS_same (hr _ (List.getElem_mem h))) (evPos rfl (ih () trivial)))
      simp only [laws_eqIntSS.l0]
      rw [if_pos (by omega), if_pos (by omega), if_pos (by omega), rdL h, wrapSucc (by omega)])
    () trivial
  refine Ev.congr (fun k => ?_) key
  simp only [laws_eqIntSS.f, if_true]
def szRows : List (List Int) → Int → Int
  | [], q => q
  | x :: t, q => if (x.length : Int) ≤ q then szRows t (q - (x.length : Int)) else -1
theorem szRows_le : ∀ (l : List (List Int)) (q : Int), szRows l q ≤ q ∨ szRows l q = -1
  | [], q => .inl (Int.le_refl q)
  | x :: t, q => by
    simp only [szRows]
    by_cases c : (x.length : Int) ≤ q
    · rw [if_pos c]
      rcases szRows_le t (q - (x.length : Int)) with e | e
      · left
        omega
      · exact .inr e
    · rw [if_neg c]
      exact .inr rfl
theorem szRows_row : ∀ (l : List (List Int)) (q : Int), 0 ≤ szRows l q → ∀ x ∈ l, (x.length : Int) ≤ q
  | [], _, _, x, hx => by cases hx
  | y :: t, q, h, x, hx => by
    simp only [szRows] at h
    by_cases c : (y.length : Int) ≤ q
    · rw [if_pos c] at h
      rcases List.mem_cons.1 hx with rfl | hx
      · exact c
      · have := szRows_row t _ h x hx
        omega
    · rw [if_neg c] at h
      omega
theorem szIntS_ok {l : List Int} {q : Int} (hl : l.length ≤ maxLen) (h0 : 0 ≤ q) (h1 : q ≤ 1048576) : laws_szIntS.f l q = some (if (l.length : Int) ≤ q then q - (l.length : Int) else -1) := by
  unfold laws_szIntS.f
  unfold maxLen at hl
  rw [wrapId (n := q - (l.length : Int)) (by omega) (by omega)]
  by_cases c : (l.length : Int) ≤ q
  · rw [if_neg (by omega), if_pos c]
  · rw [if_pos (by omega), if_neg c]
theorem szIntSS_ev {l : List (List Int)} {q : Int} (hl : l.length ≤ maxLen) (hr : ∀ x ∈ l, x.length ≤ maxLen) (h0 : 0 ≤ q) (h1 : q ≤ 1048576) : Ev (fun k => laws_szIntSS.f k l q) (if (l.length : Int) ≤ q then szRows l (q - (l.length : Int)) else -1) := by
  unfold maxLen at hl
  by_cases c : (l.length : Int) ≤ q
  · have key := evScan l (fun k (s : Int) i => laws_szIntSS.l0 k l s i) (fun s _ t => szRows t s) (fun s _ => 0 ≤ s ∧ s ≤ 1048576) (fun s _ => by
        refine Ev.step (f := fun _ => some s) (fun k => ?_) (Ev.now _)
        simp only [laws_szIntSS.l0]
        rw [if_neg (by omega)]) (fun s i t h _ hs ih => by
        have st : ∀ k, laws_szIntSS.l0 (k + 1) l s (i : Int) = (laws_szIntS.f l[i] s).bind fun z => if z < 0 then some (-1) else laws_szIntSS.l0 k l z ((i + 1 : Nat) : Int) := by
          intro k
          simp only [laws_szIntSS.l0]
          rw [if_pos (by omega), if_pos (by omega), rdL h, wrapSucc (by omega)]
        refine Ev.step st ?_
        rw [szIntS_ok (hr _ (List.getElem_mem h)) hs.1 hs.2]
        simp only [Option.bind_some, szRows]
        by_cases d : (l[i].length : Int) ≤ s
        · rw [if_pos d, if_pos d]
          exact evNeg (by omega) (ih _ ⟨by omega, by omega⟩)
        · rw [if_neg d, if_neg d]
          exact evPos (by omega) (Ev.now _))
      (q - (l.length : Int)) ⟨by omega, by omega⟩
    rw [if_pos c]
    refine Ev.congr (fun k => ?_) key
    simp only [laws_szIntSS.f]
    rw [wrapId (n := q - (l.length : Int)) (by omega) (by omega), if_neg (by omega)]
  · rw [if_neg c]
    refine Ev.congr (f := fun _ => some (-1)) (fun k => ?_) (Ev.now _)
    simp only [laws_szIntSS.f]
    rw [wrapId (n := q - (l.length : Int)) (by omega) (by omega), if_pos (by omega)]

def okM (m : S82) : Bool := decide ((1 ≤ m.f0 ∧ m.f0 ≤ 99) ∧ (0 ≤ m.f1 ∧ m.f1 ≤ 100) ∧ (1 ≤ m.f2 ∧ m.f2 ≤ 10))
/-- Members of a crew, behind one whose number is p. -/
def crewFrom : Int → List S82 → Bool
  | _, [] => true
  | p, m :: t => okM m && (decide (p < m.f0) && crewFrom m.f0 t)
def areCrew (l : List S82) : Bool := crewFrom 0 l && decide (1 ≤ l.length ∧ l.length ≤ 8)
def prevId (l : List S82) (i : Nat) : Int := if i = 0 then 0 else (l.getD (i - 1) z82).f0
theorem prevId_succ {l : List S82} {i : Nat} (h : i < l.length) : prevId l (i + 1) = l[i].f0 := by
  unfold prevId
  rw [if_neg (by omega), Nat.add_sub_cancel, getD_lt h]
theorem prevId_pos {l : List S82} {i : Nat} (hl : l.length ≤ 100000000) (h : i ≤ l.length) (h0 : 0 < i) : prevId l i = (rd_T82 l (wrap64 ((i : Int) - 1))).f0 := by
  rw [wrapId (n := (i : Int) - 1) (by omega) (by omega), show ((i : Int) - 1) = ((i - 1 : Nat) : Int) by omega, rdM (by omega)]
  unfold prevId
  rw [if_neg (by omega), getD_lt (by omega)]
theorem crewFrom_ok : ∀ {l : List S82} {p : Int}, crewFrom p l = true → ∀ m ∈ l, okM m = true
  | [], _, _, m, h => by cases h
  | x :: t, p, e, m, h => by
    simp only [crewFrom, Bool.and_eq_true] at e
    rcases List.mem_cons.1 h with rfl | h
    · exact e.1
    · exact crewFrom_ok e.2.2 m h
theorem areCrew_len {l : List S82} (e : areCrew l = true) : 1 ≤ l.length ∧ l.length ≤ 8 := by
  unfold areCrew at e
  simp only [Bool.and_eq_true, decide_eq_true_eq] at e
  exact e.2
theorem areCrew_ok {l : List S82} (e : areCrew l = true) : ∀ m ∈ l, (1 ≤ m.f0 ∧ m.f0 ≤ 99) ∧ (0 ≤ m.f1 ∧ m.f1 ≤ 100) ∧ (1 ≤ m.f2 ∧ m.f2 ≤ 10) := by
  intro m hm
  unfold areCrew at e
  simp only [Bool.and_eq_true] at e
  have := crewFrom_ok e.1 m hm
  unfold okM at this
  exact of_decide_eq_true this

def healthy (l : List S82) : List Int := (l.filter (fun m => !m.f3)).map (·.f0)
theorem healthy_len (l : List S82) : (healthy l).length ≤ l.length := by
  unfold healthy
  rw [List.length_map]
  exact List.length_filter_le _ _
theorem impl_Healthy_ev {l : List S82} (hl : l.length ≤ 100000000) : Ev (fun k => impl_Healthy.f k l) (healthy l) := by
  have key := evScan l (fun k (acc : List Int) i => impl_Healthy.l0 k acc l (l.length : Int) i) (fun acc i t => acc ++ healthy t) (fun acc i => acc.length ≤ i) (fun acc _ => by
      rw [show acc ++ healthy [] = acc by simp [healthy]]
      refine Ev.step (f := fun _ => some acc) (fun k => ?_) (Ev.now _)
      simp only [impl_Healthy.l0]
      rw [if_neg (by omega)]) (fun acc i t h _ hi ih => by
      have st : ∀ k, impl_Healthy.l0 (k + 1) acc l (l.length : Int) (i : Int) = if l[i].f3 = true then impl_Healthy.l0 k acc l (l.length : Int) ((i + 1 : Nat) : Int) else impl_Healthy.l0 k (acc ++ [l[i].f0]) l (l.length : Int) ((i + 1 : Nat) : Int) := by
        intro k
        simp only [impl_Healthy.l0]
        rw [if_pos (by omega), if_pos (by omega), if_pos (by omega), rdM h, wrapSucc (by omega), if_pos (show acc.length < 17592186044416 by omega)]
      refine Ev.step st ?_
      by_cases d : l[i].f3 = true
      · refine evPos d ?_
        have := ih acc (by omega)
        simpa [healthy, d] using this
      · refine evNeg d ?_
        have := ih (acc ++ [l[i].f0]) (by simp; omega)
        simpa [healthy, d] using this)
    [] (by simp)
  unfold impl_Healthy.f
  simpa using key

/-- The index of the first member of that number, the first of the list standing at i; -1 if there is none. -/
def findM (n : Int) : Nat → List S82 → Int
  | _, [] => -1
  | i, m :: t => if m.f0 = n then (i : Int) else findM n (i + 1) t
theorem findM_lt (n : Int) : ∀ (t : List S82) (i : Nat), findM n i t = -1 ∨ ((i : Int) ≤ findM n i t ∧ findM n i t < (i : Int) + (t.length : Int))
  | [], i => .inl rfl
  | m :: t, i => by
    simp only [findM, List.length_cons]
    split
    · right
      omega
    · rcases findM_lt n t (i + 1) with e | e
      · exact .inl e
      · right
        omega

theorem evTo {α : Type} {g : Nat → Option α} {r r' : α} (h : Ev g r) (e : r = r') : Ev g r' := e ▸ h
def teamGo (P : Int → Bool) : List Int → List Int → Option (List Int)
  | s, [] => some s
  | s, n :: t => if P n = true ∧ ¬ n ∈ s then teamGo P (s ++ [n]) t else none
def teamsGo (P : Int → Bool) : List Int → List (List Int) → Bool
  | _, [] => true
  | s, m :: t => if 2 ≤ m.length ∧ m.length ≤ 3 then (match teamGo P s m with | some r => teamsGo P r t | none => false) else false
def wellA (l : List S82) (n : Int) : Bool := decide (n ∈ healthy l)
def wellB (l : List S82) (n : Int) : Bool := decide (0 ≤ findM n 0 l) && !(l.getD (findM n 0 l).toNat z82).f3
theorem crewFrom_lt : ∀ {l : List S82} {p : Int}, crewFrom p l = true → ∀ m ∈ l, p < m.f0
  | [], _, _, m, h => by cases h
  | x :: t, p, e, m, h => by
    simp only [crewFrom, Bool.and_eq_true, decide_eq_true_eq] at e
    rcases List.mem_cons.1 h with rfl | h
    · exact e.2.1
    · have := crewFrom_lt e.2.2 m h
      omega
theorem wellAB (n : Int) : ∀ (t : List S82) (p : Int) (i : Nat), crewFrom p t = true →
    (n ∈ healthy t ↔ ∃ j, j < t.length ∧ findM n i t = ((i + j : Nat) : Int) ∧ (t.getD j z82).f3 = false)
  | [], p, i, _ => by simp [healthy]
  | m :: t, p, i, e => by
    have e' := e
    simp only [crewFrom, Bool.and_eq_true, decide_eq_true_eq] at e
    have ih := wellAB n t m.f0 (i + 1) e.2.2
    simp only [findM]
    by_cases c : m.f0 = n
    · rw [if_pos c]
      have no : ¬ n ∈ healthy t := by
        intro h
        unfold healthy at h
        obtain ⟨x, hx, hn⟩ := List.mem_map.1 h
        have := crewFrom_lt e.2.2 x (List.mem_filter.1 hx).1
        omega
      have hm : n ∈ healthy (m :: t) ↔ m.f3 = false := by
        unfold healthy at no ⊢
        rw [List.filter_cons]
        by_cases d : m.f3 = false
        · rw [if_pos (by simp [d]), List.map_cons]
          simp [c, d]
        · rw [if_neg (by simpa using d)]
          exact ⟨fun h => absurd h no, fun h => absurd h d⟩
      rw [hm]
      constructor
      · intro d
        exact ⟨0, by simp, by simp, by simpa using d⟩
      · rintro ⟨j, hj, hi, d⟩
        obtain rfl : j = 0 := by omega
        simpa using d
    · rw [if_neg c]
      have hm : n ∈ healthy (m :: t) ↔ n ∈ healthy t := by
        unfold healthy
        rw [List.filter_cons]
        have c' : ¬ n = m.f0 := fun x => c x.symm
        split
        · simp [c']
        · rfl
      rw [hm, ih]
      constructor
      · rintro ⟨j, hj, hi, d⟩
        exact ⟨j + 1, by simp only [List.length_cons]; omega, by omega, by simpa using d⟩
      · rintro ⟨j, hj, hi, d⟩
        cases j with
        | zero =>
          rcases findM_lt n t (i + 1) with h | h
          · omega
          · omega
        | succ j => exact ⟨j, by simp only [List.length_cons] at hj; omega, by omega, by simpa using d⟩
theorem well_same {l : List S82} (h : areCrew l = true) (n : Int) : wellA l n = wellB l n := by
  unfold areCrew at h
  rw [Bool.and_eq_true] at h
  have key := wellAB n l 0 0 h.1
  unfold wellA wellB
  rw [Bool.eq_iff_iff, decide_eq_true_eq, key]
  simp only [Bool.and_eq_true, decide_eq_true_eq, Nat.zero_add, Bool.not_eq_true']
  constructor
  · rintro ⟨j, hj, hi, d⟩
    rw [hi, toNatCast]
    exact ⟨by omega, d⟩
  · rintro ⟨h0, d⟩
    rcases findM_lt n l 0 with e | e
    · omega
    · exact ⟨(findM n 0 l).toNat, by omega, by omega, d⟩
theorem teamGo_same {P Q : Int → Bool} (h : ∀ n, P n = Q n) : ∀ (t s : List Int), teamGo P s t = teamGo Q s t
  | [], _ => rfl
  | n :: t, s => by
    simp only [teamGo, h n]
    split
    · exact teamGo_same h t _
    · rfl
theorem teamsGo_same {P Q : Int → Bool} (h : ∀ n, P n = Q n) : ∀ (t : List (List Int)) (s : List Int), teamsGo P s t = teamsGo Q s t
  | [], _ => rfl
  | m :: t, s => by
    simp only [teamsGo, teamGo_same h]
    split
    · split
      · exact teamsGo_same h t _
      · rfl
    · rfl
theorem roped_same (l : List S82) (ts : List (List Int)) : (teamsGo (wellA l) [] ts && areCrew l) = (teamsGo (wellB l) [] ts && areCrew l) := by
  by_cases c : areCrew l = true
  · rw [teamsGo_same (well_same c)]
  · rw [Bool.not_eq_true] at c
    rw [c, Bool.and_false, Bool.and_false]
/-- The inner loop, as a whole: what it comes to, by what follows behind it. -/
theorem teamScan (P : Int → Bool) (m : List Int) (l : Nat → List Int → Int → Option Bool) (G : List Int → Bool) (n : Nat)
    (hend : ∀ s, s.length ≤ n + m.length → Ev (fun k => l k s (m.length : Int)) (G s))
    (hstep : ∀ s i (h : i < m.length), s.length ≤ n + i → (P m[i] = true → ¬ m[i] ∈ s → Ev (fun k => l k (s ++ [m[i]]) ((i + 1 : Nat) : Int)) (match teamGo P (s ++ [m[i]]) (m.drop (i + 1)) with | some r => G r | none => false)) → Ev (fun k => l k s (i : Int)) (if P m[i] = true ∧ ¬ m[i] ∈ s then (match teamGo P (s ++ [m[i]]) (m.drop (i + 1)) with | some r => G r | none => false) else false)) :
    ∀ s, s.length ≤ n → Ev (fun k => l k s 0) (match teamGo P s m with | some r => G r | none => false) := by
  have key := evScan m l (fun s _ t => match teamGo P s t with | some r => G r | none => false) (fun s i => s.length ≤ n + i) (fun s hs => by simpa only [teamGo] using hend s hs) (fun s i t h ht hs ih => by
      have := hstep s i h hs (fun _ _ => by
        have q := ih (s ++ [m[i]]) (by simp only [List.length_append, List.length_cons, List.length_nil]; omega)
        rwa [ht] at q)
      rw [ht]
      simp only [teamGo]
      by_cases c : P m[i] = true ∧ ¬ m[i] ∈ s
      · rw [if_pos c] at this ⊢
        exact this
      · rw [if_neg c] at this ⊢
        exact this)
  intro s hs
  exact key s (by omega)

theorem inRange_eq (a b c : Int) : impl_InRange.f a b c = some (decide (b ≤ a ∧ a ≤ c)) := by
  unfold impl_InRange.f
  by_cases h : b ≤ a
  · rw [if_pos h]
    simp [h]
  · rw [if_neg h]
    simp [h]

theorem impl_AreCrew_ev {l : List S82} (hl : l.length ≤ 100000000) : Ev (fun k => impl_AreCrew.f k l) (areCrew l) := by
  have key := evScan l (fun k (_ : Unit) i => impl_AreCrew.l0 k l l (l.length : Int) i) (fun _ i t => crewFrom (prevId l i) t && decide (1 ≤ l.length ∧ l.length ≤ 8)) (fun _ _ => True) (fun _ _ => by
      refine Ev.step (f := fun _ => some (decide (1 ≤ l.length ∧ l.length ≤ 8))) (fun k => ?_) ?_
      · simp only [impl_AreCrew.l0, inRange_eq, Option.bind_some]
        rw [if_neg (by omega), Option.some.injEq, decide_eq_decide]
        omega
      · simp only [crewFrom, Bool.true_and]
        exact Ev.now _) (fun _ i t h ht _ ih => by
      have ih := ih () trivial
      rw [prevId_succ h] at ih
      have st : ∀ k, impl_AreCrew.l0 (k + 1) l l (l.length : Int) (i : Int) = if okM l[i] = true ∧ prevId l i < l[i].f0 then impl_AreCrew.l0 k l l (l.length : Int) ((i + 1 : Nat) : Int) else some false := by
        intro k
        simp only [impl_AreCrew.l0, inRange_eq, Option.bind_some]
        rw [if_pos (by omega), if_pos (by omega), if_pos (by omega), rdM h, wrapSucc (by omega)]
        unfold okM
        by_cases c0 : 1 ≤ l[i].f0 ∧ l[i].f0 ≤ 99
        · by_cases c1 : 0 < i
          · rw [← prevId_pos hl (by omega) c1]
            have w1 : wrap64 ((i : Int) - 1) = ((i - 1 : Nat) : Int) := by rw [wrapId (n := (i : Int) - 1) (by omega) (by omega)]; omega
            rw [w1]
            have g1 : (i : Int) > 0 := by omega
            have g2 : (0 : Int) ≤ ((i - 1 : Nat) : Int) := by omega
            have g3 : ((i - 1 : Nat) : Int) < (l.length : Int) := by omega
            by_cases c2 : l[i].f0 ≤ prevId l i
            · have n2 : ¬ prevId l i < l[i].f0 := by omega
              simp only [c0, and_self, decide_true, if_true, if_pos g1, if_pos g2, if_pos g3, if_pos c2, n2, and_false, if_false]
            · have n2 : prevId l i < l[i].f0 := by omega
              by_cases c3 : 0 ≤ l[i].f1 ∧ l[i].f1 ≤ 100
              · by_cases c4 : 1 ≤ l[i].f2 ∧ l[i].f2 ≤ 10
                · simp only [c0, c3, c4, and_self, decide_true, if_true, if_pos g1, if_pos g2, if_pos g3, if_neg c2, n2]
                · simp only [c0, c3, c4, and_self, decide_true, decide_false, if_true, if_false, Bool.false_eq_true, if_pos g1, if_pos g2, if_pos g3, if_neg c2, and_false, false_and]
              · simp only [c0, c3, and_self, decide_true, decide_false, if_true, if_false, Bool.false_eq_true, if_pos g1, if_pos g2, if_pos g3, if_neg c2, and_false, false_and]
          · have g1 : ¬ ((i : Int) > 0) := by omega
            have n2 : prevId l i < l[i].f0 := by
              unfold prevId
              rw [if_pos (by omega)]
              omega
            by_cases c3 : 0 ≤ l[i].f1 ∧ l[i].f1 ≤ 100
            · by_cases c4 : 1 ≤ l[i].f2 ∧ l[i].f2 ≤ 10
              · simp only [c0, c3, c4, and_self, decide_true, if_true, if_neg g1, n2]
              · simp only [c0, c3, c4, and_self, decide_true, decide_false, if_true, if_false, Bool.false_eq_true, if_neg g1, and_false, false_and]
            · simp only [c0, c3, and_self, decide_true, decide_false, if_true, if_false, Bool.false_eq_true, if_neg g1, and_false, false_and]
        · simp [c0]
      refine Ev.step st ?_
      by_cases c : okM l[i] = true ∧ prevId l i < l[i].f0
      · refine evPos c ?_
        simp only [crewFrom, c.1, c.2, decide_true, Bool.true_and]
        exact ih
      · refine evNeg c ?_
        have e : crewFrom (prevId l i) (l[i] :: t) = false := by
          simp only [crewFrom]
          by_cases d : okM l[i] = true
          · have n : ¬ prevId l i < l[i].f0 := fun x => c ⟨d, x⟩
            simp [n]
          · simp [d]
        rw [e, Bool.false_and]
        exact Ev.now _)
    () trivial
  unfold impl_AreCrew.f
  exact key

/-- The index of a number in a list of which the first stands at i; -1 if it is not there. -/
def placeS (n : Int) : Nat → List Int → Int
  | _, [] => -1
  | i, y :: t => if y = n then (i : Int) else placeS n (i + 1) t
theorem placeS_mem (n : Int) : ∀ (t : List Int) (i : Nat), (0 ≤ placeS n i t) ↔ n ∈ t
  | [], i => by simp [placeS]
  | y :: t, i => by
    simp only [placeS]
    by_cases c : y = n
    · simp [c]
    · have c' : ¬ n = y := fun e => c e.symm
      rw [if_neg c, placeS_mem n t (i + 1)]
      simp [c']
theorem placeOf_ev {l : List Int} (n : Int) (hl : l.length ≤ 100000000) : Ev (fun k => impl_placeOf.f k l n) (placeS n 0 l) := by
  have key := evScan l (fun k (_ : Unit) i => impl_placeOf.l0 k n l (l.length : Int) i) (fun _ i t => placeS n i t) (fun _ _ => True) (fun _ _ => by
      refine Ev.step (f := fun _ => some (-1)) (fun k => ?_) (Ev.now _)
      simp only [impl_placeOf.l0]
      rw [if_neg (by omega)]) (fun _ i t h ht _ ih => by
      have st : ∀ k, impl_placeOf.l0 (k + 1) n l (l.length : Int) (i : Int) = if l[i] = n then some (i : Int) else impl_placeOf.l0 k n l (l.length : Int) ((i + 1 : Nat) : Int) := by
        intro k
        simp only [impl_placeOf.l0]
        rw [if_pos (by omega), if_pos (by omega), if_pos (by omega), rdIn h, wrapSucc (by omega)]
      refine Ev.step st ?_
      simp only [placeS]
      by_cases c : l[i] = n
      · rw [if_pos c]
        exact evPos c (Ev.now _)
      · rw [if_neg c]
        exact evNeg c (ih () trivial))
    () trivial
  unfold impl_placeOf.f
  exact key
theorem has_ev {l : List Int} (n : Int) (hl : l.length ≤ 100000000) : Ev (fun k => impl_has.f k l n) (decide (n ∈ l)) := by
  unfold impl_has.f
  refine Ev.bind (placeOf_ev n hl) ?_
  simp only [ge_iff_le, placeS_mem]
  exact Ev.now _

theorem impl_AreRoped_ev {l : List S82} {ts : List (List Int)} (hl : l.length ≤ 100000000) (ht : ts.length ≤ 30000000) : Ev (fun k => impl_AreRoped.f k l ts) (teamsGo (wellA l) [] ts && areCrew l) := by
  unfold impl_AreRoped.f
  refine Ev.bind (impl_Healthy_ev hl) ?_
  have hh : (healthy l).length ≤ 100000000 := Nat.le_trans (healthy_len l) hl
  exact evScan ts (fun k (s : List Int) i => impl_AreRoped.l0 k l s (healthy l) ts (ts.length : Int) i) (fun s _ t => teamsGo (wellA l) s t && areCrew l) (fun s i => s.length ≤ 3 * i) (fun s _ => by
      simp only [teamsGo, Bool.true_and]
      refine Ev.step (f := fun k => (impl_AreCrew.f k l).bind fun z => some z) (fun k => ?_) (Ev.bind (impl_AreCrew_ev hl) (Ev.now _))
      simp only [impl_AreRoped.l0]
      rw [if_neg (by omega)]) (fun s i t h hd hs ih => by
      refine Ev.step (f := fun k => if decide ((2 : Int) ≤ (ts[i].length : Int) ∧ (ts[i].length : Int) ≤ 3) = true then impl_AreRoped.l1 k l s (healthy l) ts (ts.length : Int) (i : Int) ts[i] (ts[i].length : Int) 0 else some false) (fun k => ?_) ?_
      · simp only [impl_AreRoped.l0, inRange_eq, Option.bind_some]
        rw [if_pos (by omega), if_pos (by omega), if_pos (by omega), rdL h]
      · simp only [teamsGo]
        by_cases c : 2 ≤ ts[i].length ∧ ts[i].length ≤ 3
        · rw [if_pos c]
          refine evPos (by rw [decide_eq_true_eq]; omega) ?_
          have := teamScan (wellA l) ts[i] (fun k s j => impl_AreRoped.l1 k l s (healthy l) ts (ts.length : Int) (i : Int) ts[i] (ts[i].length : Int) j) (fun r => teamsGo (wellA l) r t && areCrew l) (3 * i) (fun s' hs' => by
              refine Ev.step (fun k => ?_) (ih s' (by omega))
              simp only [impl_AreRoped.l1]
              rw [if_neg (by omega), wrapSucc (by omega)]) (fun s' j hj hs' ih' => by
              refine Ev.step (f := fun k => (impl_has.f k (healthy l) ts[i][j]).bind fun z => if z = true then ((impl_has.f k s' ts[i][j]).bind fun y => if y = true then some false else impl_AreRoped.l1 k l (s' ++ [ts[i][j]]) (healthy l) ts (ts.length : Int) (i : Int) ts[i] (ts[i].length : Int) ((j + 1 : Nat) : Int)) else some false) (fun k => ?_) ?_
              · simp only [impl_AreRoped.l1]
                rw [if_pos (by omega), if_pos (by omega), if_pos (by omega), rdIn hj, wrapSucc (by omega), if_pos (show s'.length < 17592186044416 by omega)]
              · refine Ev.bind (has_ev _ hh) ?_
                by_cases d : wellA l ts[i][j] = true
                · refine evPos d (Ev.bind (has_ev _ (by omega)) ?_)
                  by_cases e : ts[i][j] ∈ s'
                  · rw [if_neg (fun x => x.2 e)]
                    exact evPos (decide_eq_true e) (Ev.now _)
                  · rw [if_pos ⟨d, e⟩]
                    exact evNeg (by simpa using e) (ih' d e)
                · rw [if_neg (fun x => d x.1)]
                  exact evNeg d (Ev.now _))
            s (by omega)
          refine evTo this ?_
          cases teamGo (wellA l) s ts[i] <;> simp
        · rw [if_neg c, Bool.false_and]
          exact evNeg (by rw [decide_eq_true_eq]; omega) (Ev.now _))
    [] (by simp)

theorem l1In_eq (a b c : Int) : spec_l1In.f a b c = some (decide (b ≤ a ∧ a ≤ c)) := by
  unfold spec_l1In.f
  by_cases h : b ≤ a
  · rw [if_pos h]
    simp [h]
  · rw [if_neg h]
    simp [h]

theorem spec_AreCrew_ev {l : List S82} (hl : l.length ≤ 100000000) : Ev (fun k => spec_AreCrew.f k l) (areCrew l) := by
  have key := evScan l (fun k (_ : Unit) i => spec_AreCrew.l0 k l i) (fun _ i t => crewFrom (prevId l i) t && decide (1 ≤ l.length ∧ l.length ≤ 8)) (fun _ _ => True) (fun _ _ => by
      refine Ev.step (f := fun _ => some (decide (1 ≤ l.length ∧ l.length ≤ 8))) (fun k => ?_) ?_
      · simp only [spec_AreCrew.l0, l1In_eq, Option.bind_some]
        rw [if_neg (by omega), Option.some.injEq, decide_eq_decide]
        omega
      · simp only [crewFrom, Bool.true_and]
        exact Ev.now _) (fun _ i t h ht _ ih => by
      have ih := ih () trivial
      rw [prevId_succ h] at ih
      have st : ∀ k, spec_AreCrew.l0 (k + 1) l (i : Int) = if okM l[i] = true ∧ prevId l i < l[i].f0 then spec_AreCrew.l0 k l ((i + 1 : Nat) : Int) else some false := by
        intro k
        simp only [spec_AreCrew.l0, l1In_eq, Option.bind_some]
        rw [if_pos (by omega), if_pos (by omega), rdM h, wrapSucc (by omega)]
        unfold okM
        by_cases c0 : 1 ≤ l[i].f0 ∧ l[i].f0 ≤ 99
        · by_cases c3 : 0 ≤ l[i].f1 ∧ l[i].f1 ≤ 100
          · by_cases c4 : 1 ≤ l[i].f2 ∧ l[i].f2 ≤ 10
            · by_cases c1 : 0 < i
              · rw [← prevId_pos hl (by omega) c1]
                have w1 : wrap64 ((i : Int) - 1) = ((i - 1 : Nat) : Int) := by rw [wrapId (n := (i : Int) - 1) (by omega) (by omega)]; omega
                rw [w1]
                have g1 : (i : Int) > 0 := by omega
                have g2 : (0 : Int) ≤ ((i - 1 : Nat) : Int) := by omega
                have g3 : ((i - 1 : Nat) : Int) < (l.length : Int) := by omega
                by_cases c2 : prevId l i ≥ l[i].f0
                · have n2 : ¬ prevId l i < l[i].f0 := by omega
                  simp only [c0, c3, c4, and_self, decide_true, if_true, if_pos g1, if_pos g2, if_pos g3, if_pos c2, n2, and_false, if_false]
                · have n2 : prevId l i < l[i].f0 := by omega
                  simp only [c0, c3, c4, and_self, decide_true, if_true, if_pos g1, if_pos g2, if_pos g3, if_neg c2, n2]
              · have g1 : ¬ ((i : Int) > 0) := by omega
                have n2 : prevId l i < l[i].f0 := by
                  unfold prevId
                  rw [if_pos (by omega)]
                  omega
                simp only [c0, c3, c4, and_self, decide_true, if_true, if_neg g1, n2]
            · simp [c0, c3, c4]
          · simp [c0, c3]
        · simp [c0]
      refine Ev.step st ?_
      by_cases c : okM l[i] = true ∧ prevId l i < l[i].f0
      · refine evPos c ?_
        simp only [crewFrom, c.1, c.2, decide_true, Bool.true_and]
        exact ih
      · refine evNeg c ?_
        have e : crewFrom (prevId l i) (l[i] :: t) = false := by
          simp only [crewFrom]
          by_cases d : okM l[i] = true
          · have n : ¬ prevId l i < l[i].f0 := fun x => c ⟨d, x⟩
            simp [n]
          · simp [d]
        rw [e, Bool.false_and]
        exact Ev.now _)
    () trivial
  unfold spec_AreCrew.f
  exact key

theorem l14Has_ev {l : List Int} (n : Int) (hl : l.length ≤ 100000000) : Ev (fun k => spec_l14Has.f k l n) (decide (n ∈ l)) := by
  have key := evScan l (fun k (_ : Unit) i => spec_l14Has.l0 k l n i) (fun _ _ t => decide (n ∈ t)) (fun _ _ => True) (fun _ _ => by
      refine Ev.step (f := fun _ => some false) (fun k => ?_) (Ev.now _)
      simp only [spec_l14Has.l0]
      rw [if_neg (by omega)]) (fun _ i t h ht _ ih => by
      have st : ∀ k, spec_l14Has.l0 (k + 1) l n (i : Int) = if l[i] = n then some true else spec_l14Has.l0 k l n ((i + 1 : Nat) : Int) := by
        intro k
        simp only [spec_l14Has.l0]
        rw [if_pos (by omega), if_pos (by omega), rdIn h, wrapSucc (by omega)]
      refine Ev.step st ?_
      by_cases c : l[i] = n
      · refine evPos c ?_
        simp only [List.mem_cons, c, true_or, decide_true]
        exact Ev.now _
      · refine evNeg c ?_
        have := ih () trivial
        have c' : ¬ n = l[i] := fun e => c e.symm
        simpa [c'] using this)
    () trivial
  unfold spec_l14Has.f
  exact key

theorem spec_l16Find_ev {l : List S82} (n : Int) (hl : l.length ≤ 100000000) : Ev (fun k => spec_l16Find.f k l n) (findM n 0 l) := by
  have key := evScan l (fun k (_ : Unit) i => spec_l16Find.l0 k l n i) (fun _ i t => findM n i t) (fun _ _ => True) (fun _ _ => by
      refine Ev.step (f := fun _ => some (-1)) (fun k => ?_) (Ev.now _)
      simp only [spec_l16Find.l0]
      rw [if_neg (by omega)]) (fun _ i t h _ _ ih => by
      have st : ∀ k, spec_l16Find.l0 (k + 1) l n (i : Int) = if l[i].f0 = n then some (i : Int) else spec_l16Find.l0 k l n ((i + 1 : Nat) : Int) := by
        intro k
        simp only [spec_l16Find.l0]
        rw [if_pos (by omega), if_pos (by omega), rdM h, wrapSucc (by omega)]
      refine Ev.step st ?_
      simp only [findM]
      by_cases d : l[i].f0 = n
      · rw [if_pos d]
        exact evPos d (Ev.now _)
      · rw [if_neg d]
        exact evNeg d (ih () trivial))
    () trivial
  unfold spec_l16Find.f
  exact key

theorem spec_AreRoped_ev {l : List S82} {ts : List (List Int)} (hl : l.length ≤ 100000000) (ht : ts.length ≤ 30000000) : Ev (fun k => spec_AreRoped.f k l ts) (teamsGo (wellB l) [] ts && areCrew l) := by
  unfold spec_AreRoped.f
  exact evScan ts (fun k (s : List Int) i => spec_AreRoped.l0 k l ts s i) (fun s _ t => teamsGo (wellB l) s t && areCrew l) (fun s i => s.length ≤ 3 * i) (fun s _ => by
      simp only [teamsGo, Bool.true_and]
      refine Ev.step (f := fun k => (spec_AreCrew.f k l).bind fun z => some z) (fun k => ?_) (Ev.bind (spec_AreCrew_ev hl) (Ev.now _))
      simp only [spec_AreRoped.l0]
      rw [if_neg (by omega)]) (fun s i t h hd hs ih => by
      refine Ev.step (f := fun k => if decide ((2 : Int) ≤ (ts[i].length : Int) ∧ (ts[i].length : Int) ≤ 3) = true then spec_AreRoped.l1 k l ts s (i : Int) 0 else some false) (fun k => ?_) ?_
      · simp only [spec_AreRoped.l0, l1In_eq, Option.bind_some]
        rw [if_pos (by omega), if_pos (by omega), rdL h]
      · simp only [teamsGo]
        by_cases c : 2 ≤ ts[i].length ∧ ts[i].length ≤ 3
        · rw [if_pos c]
          refine evPos (by rw [decide_eq_true_eq]; omega) ?_
          have := teamScan (wellB l) ts[i] (fun k s j => spec_AreRoped.l1 k l ts s (i : Int) j) (fun r => teamsGo (wellB l) r t && areCrew l) (3 * i) (fun s' hs' => by
              refine Ev.step (fun k => ?_) (ih s' (by omega))
              simp only [spec_AreRoped.l1]
              rw [if_pos (by omega), if_pos (by omega), rdL h, if_neg (by omega), wrapSucc (by omega)]) (fun s' j hj hs' ih' => by
              refine Ev.step (f := fun k => (spec_l16Find.f k l ts[i][j]).bind fun z => if z < 0 then some false else if 0 ≤ z then (if z < (l.length : Int) then (if (rd_T82 l z).f3 = true then some false else ((spec_l14Has.f k s' ts[i][j]).bind fun y => if y = true then some false else spec_AreRoped.l1 k l ts (s' ++ [ts[i][j]]) (i : Int) ((j + 1 : Nat) : Int))) else none) else none) (fun k => ?_) ?_
              · simp only [spec_AreRoped.l1]
                rw [if_pos (by omega), if_pos (by omega), rdL h, if_pos (by omega), if_pos (by omega), rdIn hj, wrapSucc (by omega), if_pos (show s'.length < 17592186044416 by omega)]
              · refine Ev.bind (spec_l16Find_ev _ hl) ?_
                rcases findM_lt ts[i][j] l 0 with q | q
                · have d : ¬ wellB l ts[i][j] = true := by
                    unfold wellB
                    rw [q]
                    simp
                  rw [if_neg (fun x => d x.1)]
                  exact evPos (by omega) (Ev.now _)
                · refine evNeg (by omega) (evPos (by omega) (evPos (by omega) ?_))
                  have rw_ : (rd_T82 l (findM ts[i][j] 0 l)).f3 = !wellB l ts[i][j] := by
                    unfold wellB rd_T82
                    rw [decide_eq_true (by omega)]
                    simp
                  rw [rw_]
                  by_cases d : wellB l ts[i][j] = true
                  · rw [d]
                    refine evNeg (by simp) (Ev.bind (l14Has_ev _ (by omega)) ?_)
                    by_cases e : ts[i][j] ∈ s'
                    · rw [if_neg (fun x => x.2 e)]
                      exact evPos (decide_eq_true e) (Ev.now _)
                    · rw [if_pos ⟨rfl, e⟩]
                      exact evNeg (by simpa using e) (ih' d e)
                  · rw [if_neg (fun x => d x.1)]
                    exact evPos (by simpa using d) (Ev.now _))
            s (by omega)
          refine evTo this ?_
          cases teamGo (wellB l) s ts[i] <;> simp
        · rw [if_neg c, Bool.false_and]
          exact evNeg (by rw [decide_eq_true_eq]; omega) (Ev.now _))
    [] (by simp)

def okS84 (x : S84) : Prop := (Lit.int .i64 x.f0).wf = true ∧ (Lit.int .i64 x.f1).wf = true ∧ (Lit.int .i64 x.f2).wf = true ∧ True
def FnExactAreRoped.Claim : Prop := ∀ (l0 : List (S84)) (l1 : List (List (Int))), l0.length ≤ maxLen → (∀ x ∈ l0, okS84 x) → l1.length ≤ maxLen → (∀ x ∈ l1, (x.length ≤ maxLen ∧ ∀ y ∈ x, (Lit.int .i64 y).wf = true)) → ∃ k, laws_FnExactAreRoped.f k l0 l1 = some true
theorem FnExactAreRoped : FnExactAreRoped.Claim := by
  intro l ts hm _ ht hr
  apply Ev.rounds
  unfold laws_FnExactAreRoped.f
  rw [szMemberS_ok hm (by omega) (by omega)]
  simp only [Option.bind_some]
  by_cases ql : (l.length : Int) ≤ 1048576
  · rw [if_pos ql]
    refine evNeg (by omega) (Ev.bind (szIntSS_ev ht (fun x hx => (hr x hx).1) (by omega) (by omega)) ?_)
    by_cases qn : (if (ts.length : Int) ≤ 1048576 - (l.length : Int) then szRows ts (1048576 - (l.length : Int) - (ts.length : Int)) else -1) < 0
    · exact evPos qn (Ev.now _)
    refine evNeg qn ?_
    have qt : (ts.length : Int) ≤ 1048576 - (l.length : Int) := by
      refine Decidable.byContradiction fun x => qn ?_
      rw [if_neg x]
      omega
    rw [if_pos qt] at qn
    have hrow : ∀ x ∈ ts, x.length ≤ 1048576 := by
      intro x hx
      have := szRows_row ts (1048576 - (l.length : Int) - (ts.length : Int)) (by omega) x hx
      omega
    have hl : l.length ≤ 1048576 := by omega
    have hl' : (l.map mem).length ≤ 1048576 := by rw [List.length_map]; exact hl
    have htt : ts.length ≤ 1048576 := by omega
    refine Ev.bind (toMemberS_ev hl) (Ev.bind (toIntSS_ev htt hrow) (Ev.bind (spec_AreRoped_ev (by omega) (by omega)) (Ev.bind (toMemberS_ev hl) (Ev.bind (toIntSS_ev htt hrow) (Ev.bind (impl_AreRoped_ev (by omega) (by omega)) ?_)))))
    rw [roped_same]
    refine evNeg (by simp) (Ev.bind (toMemberS_ev hl) (Ev.bind (eqMemberS_same hl') (evPos rfl (Ev.bind (toIntSS_ev htt hrow) (Ev.bind (eqIntSS_same htt hrow) (evPos rfl (Ev.now _)))))))
  · rw [if_neg ql]
    exact evPos (by omega) (Ev.now _)
end Go.Proofs.Ytijfpcaahcnbbaa.Pure
