/- For every list of depots and every Party, the program's FoodInAll and the reference's give the same answer: the law's Go function answers true. No condition beyond the kinds of the numbers. -/
import Derived.Test.YtkdclkbgejbgjaePFnExactFoodInAllx4
import Derived.Test.YtkdclkbgejbgjaeAid
namespace Go.Proofs.Ytkdclkbgejbgjae.Pure
open Go.RowKit Go.Proofs.Ytkdclkbgejbgjae.PFnExactFoodInAll Go.Proofs.Ytkdclkbgejbgjae.Aid Go.Proofs.YtkdclkbgejbgjaeW.PrintWords Go.Proofs.YtkdclkbgejbgjaeW.PrintLast Go.Proofs.YtkdclkbgejbgjaeW.PrintMore
set_option linter.unusedVariables false
set_option linter.unusedSimpArgs false
theorem szMemberS_ok {l : List S93} {q : Int} (hl : l.length ≤ maxLen) (h0 : 0 ≤ q) (h1 : q ≤ 1048576) : laws_szMemberS.f l q = some (if (l.length : Int) ≤ q then q - (l.length : Int) else -1) := by
  unfold laws_szMemberS.f
  unfold maxLen at hl
  rw [wrapId (n := q - (l.length : Int)) (by omega) (by omega)]
  by_cases c : (l.length : Int) ≤ q
  · rw [if_neg (by omega), if_pos c]
  · rw [if_pos (by omega), if_neg c]

def mem (x : S93) : S71 := ⟨x.f0, x.f1, x.f2, x.f3⟩
theorem rdM {xs : List S71} {i : Nat} (h : i < xs.length) : rd_T71 xs (i : Int) = xs[i] := by
  unfold rd_T71
  rw [Int.toNat_natCast, getD_lt h]
theorem rdLM {xs : List S93} {i : Nat} (h : i < xs.length) : rd_T93 xs (i : Int) = xs[i] := by
  unfold rd_T93
  rw [Int.toNat_natCast, getD_lt h]
theorem toMemberS_ev {l : List S93} (hl : l.length ≤ 1048576) : Ev (fun k => laws_toMemberS.f k l) (l.map mem) := by
  have key := evScan l (fun k (acc : List S71) i => laws_toMemberS.l0 k l acc i) (fun _ _ _ => l.map mem) (fun acc i => acc.length = (l.map mem).length ∧ acc.take i = (l.map mem).take i) (fun acc ⟨h0, h1⟩ => by
      refine Ev.step (f := fun _ => some acc) (fun k => ?_) ?_
      · simp only [laws_toMemberS.l0]
        rw [if_neg (by omega)]
      · rw [take_whole h0 (by rw [List.length_map]; exact h1)]
        exact Ev.now _) (fun acc i t h ht ⟨h0, h1⟩ ih => by
      have hm : i < (l.map mem).length := by rw [List.length_map]; exact h
      have hs := take_set_succ hm h0 h1
      rw [List.length_map] at h0
      refine Ev.step (fun k => ?_) (ih (acc.set i (l.map mem)[i]) ⟨by simpa using h0, hs⟩)
      simp only [laws_toMemberS.l0, laws_toMember.f, Option.bind_some]
      rw [if_pos (by omega), if_pos (by omega), if_pos (by omega), rdLM h, wrapSucc (by omega), toNatCast, List.getElem_map]
      rfl)
    (List.replicate l.length z71) ⟨by simp, by simp⟩
  refine Ev.congr (fun k => ?_) key
  simp only [laws_toMemberS.f]
  rw [if_pos (by omega), if_pos (by omega), toNatCast]

theorem eqMemberS_same {a : List S71} (ha : a.length ≤ 1048576) : Ev (fun k => laws_eqMemberS.f k a a) true := by
  have key := evScan a (fun k (_ : Unit) i => laws_eqMemberS.l0 k a a i) (fun _ _ _ => true) (fun _ _ => True) (fun _ _ => by
      refine Ev.step (f := fun _ => some true) (fun k => ?_) (Ev.now _)
      simp only [laws_eqMemberS.l0]
      rw [if_neg (by omega)]) (fun _ i t h _ _ ih => by
      refine Ev.step (fun k => ?_) (ih () trivial)
      simp only [laws_eqMemberS.l0, laws_eqMember.f, if_true, bne_self_eq_false, Bool.false_eq_true, if_false, Option.bind_some]
      rw [if_pos (by omega), if_pos (by omega), if_pos (by omega), wrapSucc (by omega)])
    () trivial
  refine Ev.congr (fun k => ?_) key
  simp only [laws_eqMemberS.f, if_true]

theorem rdOfIn {xs : List Bool} {i : Nat} (h : i < xs.length) : rdOf false xs (i : Int) = xs[i] := by
  unfold rdOf
  rw [Int.toNat_natCast, getD_lt h]
theorem toBoolS_ev {l : List Bool} (hl : l.length ≤ 1048576) : Ev (fun k => laws_toBoolS.f k l) l := by
  have key := evScan l (fun k (acc : List Bool) i => laws_toBoolS.l0 k l acc i) (fun _ _ _ => l) (fun acc i => acc.length = l.length ∧ acc.take i = l.take i) (fun acc ⟨h0, h1⟩ => by
      refine Ev.step (f := fun _ => some acc) (fun k => ?_) ?_
      · simp only [laws_toBoolS.l0]
        rw [if_neg (by omega)]
      · rw [take_whole h0 h1]
        exact Ev.now _) (fun acc i t h ht ⟨h0, h1⟩ ih => by
      refine Ev.step (fun k => ?_) (ih (acc.set i l[i]) ⟨by simpa using h0, take_set_succ h h0 h1⟩)
      simp only [laws_toBoolS.l0]
      rw [if_pos (by omega), if_pos (by omega), if_pos (by omega), rdOfIn h, wrapSucc (by omega), toNatCast])
    (List.replicate l.length false) ⟨by simp, by simp⟩
  refine Ev.congr (fun k => ?_) key
  simp only [laws_toBoolS.f]
  rw [if_pos (by omega), if_pos (by omega), toNatCast]
theorem eqBoolS_same {a : List Bool} (ha : a.length ≤ 1048576) : Ev (fun k => laws_eqBoolS.f k a a) true := by
  have key := evScan a (fun k (_ : Unit) i => laws_eqBoolS.l0 k a a i) (fun _ _ _ => true) (fun _ _ => True) (fun _ _ => by
      refine Ev.step (f := fun _ => some true) (fun k => ?_) (Ev.now _)
      simp only [laws_eqBoolS.l0]
      rw [if_neg (by omega)]) (fun _ i t h _ _ ih => by
      refine Ev.step (fun k => ?_) (ih () trivial)
      simp only [laws_eqBoolS.l0, bne_self_eq_false, Bool.false_eq_true, if_false]
      rw [if_pos (by omega), if_pos (by omega), if_pos (by omega), wrapSucc (by omega)])
    () trivial
  refine Ev.congr (fun k => ?_) key
  simp only [laws_eqBoolS.f, if_true]
theorem szBoolS_ok {l : List Bool} {q : Int} (hl : l.length ≤ maxLen) (h0 : 0 ≤ q) (h1 : q ≤ 1048576) : laws_szBoolS.f l q = some (if (l.length : Int) ≤ q then q - (l.length : Int) else -1) := by
  unfold laws_szBoolS.f
  unfold maxLen at hl
  rw [wrapId (n := q - (l.length : Int)) (by omega) (by omega)]
  by_cases c : (l.length : Int) ≤ q
  · rw [if_neg (by omega), if_pos c]
  · rw [if_pos (by omega), if_neg c]
theorem szParty_ok {a f : Int} {l : List S93} {p : List Bool} {q : Int} (hl : l.length ≤ maxLen) (hp : p.length ≤ maxLen) (h0 : 0 ≤ q) (h1 : q ≤ 1048576) :
    laws_szParty.f a f l p q = some (if (l.length : Int) + (p.length : Int) ≤ q then q - (l.length : Int) - (p.length : Int) else -1) := by
  unfold laws_szParty.f
  rw [szMemberS_ok hl h0 h1, Option.bind_some]
  by_cases c : (l.length : Int) ≤ q
  · rw [if_pos c, if_neg (by omega), szBoolS_ok hp (by omega) (by omega), Option.bind_some]
    by_cases d : (p.length : Int) ≤ q - (l.length : Int)
    · rw [if_pos d, if_neg (by omega), if_pos (by omega)]
    · rw [if_neg d, if_pos (by omega), if_neg (by omega)]
  · rw [if_neg c, if_pos (by omega), if_neg (by omega)]
theorem toParty_ev {a f : Int} {l : List S93} {p : List Bool} (hl : l.length ≤ 1048576) (hp : p.length ≤ 1048576) : Ev (fun k => laws_toParty.f k a f l p) (a, f, l.map mem, p) := by
  unfold laws_toParty.f
  exact Ev.bind (toMemberS_ev hl) (Ev.bind (toBoolS_ev hp) (Ev.now _))
theorem eqParty_same {a f : Int} {l : List S71} {p : List Bool} (hl : l.length ≤ 1048576) (hp : p.length ≤ 1048576) : Ev (fun k => laws_eqParty.f k a f l p a f l p) true := by
  unfold laws_eqParty.f
  exact evPos rfl (evPos rfl (Ev.bind (eqMemberS_same hl) (evPos rfl (Ev.bind (eqBoolS_same hp) (evPos rfl (Ev.now _))))))

theorem szDepotS_ok {l : List S86} {q : Int} (hl : l.length ≤ maxLen) (h0 : 0 ≤ q) (h1 : q ≤ 1048576) : laws_szDepotS.f l q = some (if (l.length : Int) ≤ q then q - (l.length : Int) else -1) := by
  unfold laws_szDepotS.f
  unfold maxLen at hl
  rw [wrapId (n := q - (l.length : Int)) (by omega) (by omega)]
  by_cases c : (l.length : Int) ≤ q
  · rw [if_neg (by omega), if_pos c]
  · rw [if_pos (by omega), if_neg c]

def dep (x : S86) : S84 := ⟨x.f0, x.f1⟩
theorem rdD {xs : List S84} {i : Nat} (h : i < xs.length) : rd_T84 xs (i : Int) = xs[i] := by
  unfold rd_T84
  rw [Int.toNat_natCast, getD_lt h]
theorem rdLD {xs : List S86} {i : Nat} (h : i < xs.length) : rd_T86 xs (i : Int) = xs[i] := by
  unfold rd_T86
  rw [Int.toNat_natCast, getD_lt h]
theorem toDepotS_ev {l : List S86} (hl : l.length ≤ 1048576) : Ev (fun k => laws_toDepotS.f k l) (l.map dep) := by
  have key := evScan l (fun k (acc : List S84) i => laws_toDepotS.l0 k l acc i) (fun _ _ _ => l.map dep) (fun acc i => acc.length = (l.map dep).length ∧ acc.take i = (l.map dep).take i) (fun acc ⟨h0, h1⟩ => by
      refine Ev.step (f := fun _ => some acc) (fun k => ?_) ?_
      · simp only [laws_toDepotS.l0]
        rw [if_neg (by omega)]
      · rw [take_whole h0 (by rw [List.length_map]; exact h1)]
        exact Ev.now _) (fun acc i t h ht ⟨h0, h1⟩ ih => by
      have hm : i < (l.map dep).length := by rw [List.length_map]; exact h
      have hs := take_set_succ hm h0 h1
      rw [List.length_map] at h0
      refine Ev.step (fun k => ?_) (ih (acc.set i (l.map dep)[i]) ⟨by simpa using h0, hs⟩)
      simp only [laws_toDepotS.l0, laws_toDepot.f, Option.bind_some]
      rw [if_pos (by omega), if_pos (by omega), if_pos (by omega), rdLD h, wrapSucc (by omega), toNatCast, List.getElem_map]
      rfl)
    (List.replicate l.length z84) ⟨by simp, by simp⟩
  refine Ev.congr (fun k => ?_) key
  simp only [laws_toDepotS.f]
  rw [if_pos (by omega), if_pos (by omega), toNatCast]

theorem eqDepotS_same {a : List S84} (ha : a.length ≤ 2000000) : Ev (fun k => laws_eqDepotS.f k a a) true := by
  have key := evScan a (fun k (_ : Unit) i => laws_eqDepotS.l0 k a a i) (fun _ _ _ => true) (fun _ _ => True) (fun _ _ => by
      refine Ev.step (f := fun _ => some true) (fun k => ?_) (Ev.now _)
      simp only [laws_eqDepotS.l0]
      rw [if_neg (by omega)]) (fun _ i t h _ _ ih => by
      refine Ev.step (fun k => ?_) (ih () trivial)
      simp only [laws_eqDepotS.l0, laws_eqDepot.f, if_true, Option.bind_some]
      rw [if_pos (by omega), if_pos (by omega), if_pos (by omega), wrapSucc (by omega)])
    () trivial
  refine Ev.congr (fun k => ?_) key
  simp only [laws_eqDepotS.f, if_true]

def clamp (x : Int) : Int := if x < 0 then 0 else if 10000 < x then 10000 else x
def totalFood : List S84 → Int
  | [] => 0
  | d :: t => clamp d.f1 + totalFood t
theorem clamp_le (x : Int) : 0 ≤ clamp x ∧ clamp x ≤ 10000 := by
  unfold clamp
  split
  · omega
  · split <;> omega
theorem mnmx (x : Int) : mn (mx x 0) 10000 = clamp x := by
  unfold mn mx clamp
  repeat' split
  all_goals omega
theorem totalFood_le : ∀ l : List S84, 0 ≤ totalFood l ∧ totalFood l ≤ 10000 * (l.length : Int)
  | [] => by simp [totalFood]
  | d :: t => by
    have := totalFood_le t
    have := clamp_le d.f1
    simp only [totalFood, List.length_cons, Int.natCast_add]
    omega
theorem impl_TotalFood_ev {l : List S84} (hl : l.length ≤ 100000000) : Ev (fun k => impl_TotalFood.f k l) (totalFood l) := by
  have key := evScan l (fun k (acc : Int) i => impl_TotalFood.l0 k acc l (l.length : Int) i) (fun acc i t => acc + totalFood t) (fun acc i => 0 ≤ acc ∧ acc ≤ 10000 * (i : Int)) (fun acc _ => by
      rw [show acc + totalFood [] = acc by simp [totalFood]]
      refine Ev.step (f := fun _ => some acc) (fun k => ?_) (Ev.now _)
      simp only [impl_TotalFood.l0]
      rw [if_neg (by omega)]) (fun acc i t h _ hi ih => by
      have hc := clamp_le l[i].f1
      have := ih (acc + clamp l[i].f1) (by omega)
      rw [show acc + clamp l[i].f1 + totalFood t = acc + totalFood (l[i] :: t) by simp only [totalFood]; omega] at this
      refine Ev.step (fun k => ?_) this
      simp only [impl_TotalFood.l0]
      rw [if_pos (by omega), if_pos (by omega), if_pos (by omega), rdD h, wrapSucc (by omega), mnmx, wrapId (n := acc + clamp l[i].f1) (by omega) (by omega)])
    0 (by omega)
  unfold impl_TotalFood.f
  simpa using key

theorem minmax (x : Int) : (spec_Min.f 10000 x).bind (fun t => spec_Max.f 0 t) = some (clamp x) := by
  unfold spec_Min.f spec_Max.f clamp
  by_cases c : x < 10000
  · rw [if_pos c]
    simp only [Option.bind_some]
    by_cases d : x > 0
    · rw [if_pos d, if_neg (by omega), if_neg (by omega)]
    · rw [if_neg d]
      by_cases e : x < 0
      · rw [if_pos e]
      · rw [if_neg e, if_neg (by omega)]
        congr 1
        omega
  · rw [if_neg c]
    simp only [Option.bind_some]
    rw [if_pos (by omega), if_neg (by omega)]
    by_cases e : 10000 < x
    · rw [if_pos e]
    · rw [if_neg e]
      congr 1
      omega
theorem minmax_bind {β : Type} (x : Int) (g : Int → Option β) : ((spec_Min.f 10000 x).bind fun t => (spec_Max.f 0 t).bind g) = g (clamp x) := by
  rw [← Option.bind_assoc, minmax, Option.bind_some]
theorem spec_TotalFood_ev {l : List S84} (hl : l.length ≤ 100000000) : Ev (fun k => spec_TotalFood.f k l) (totalFood l) := by
  have key := evScan l (fun k (acc : Int) i => spec_TotalFood.l0 k l acc i) (fun acc i t => acc + totalFood t) (fun acc i => 0 ≤ acc ∧ acc ≤ 10000 * (i : Int)) (fun acc _ => by
      rw [show acc + totalFood [] = acc by simp [totalFood]]
      refine Ev.step (f := fun _ => some acc) (fun k => ?_) (Ev.now _)
      simp only [spec_TotalFood.l0]
      rw [if_neg (by omega)]) (fun acc i t h _ hi ih => by
      have hc := clamp_le l[i].f1
      have := ih (acc + clamp l[i].f1) (by omega)
      rw [show acc + clamp l[i].f1 + totalFood t = acc + totalFood (l[i] :: t) by simp only [totalFood]; omega] at this
      refine Ev.step (fun k => ?_) this
      simp only [spec_TotalFood.l0]
      rw [if_pos (by omega), if_pos (by omega), rdD h, minmax_bind, wrapSucc (by omega), wrapId (n := acc + clamp l[i].f1) (by omega) (by omega)])
    0 (by omega)
  unfold spec_TotalFood.f
  simpa using key

def foodInAll (d : List S84) (f : Int) : Int := totalFood d + clamp f
theorem impl_All_ev {d : List S84} {a f : Int} {l : List S71} {p : List Bool} (hd : d.length ≤ 100000000) : Ev (fun k => impl_FoodInAll.f k d a f l p) (foodInAll d f) := by
  unfold impl_FoodInAll.f foodInAll
  have h0 := totalFood_le d
  have h1 := clamp_le f
  refine Ev.bind (impl_TotalFood_ev hd) ?_
  rw [mnmx, wrapId (n := totalFood d + clamp f) (by omega) (by omega)]
  exact Ev.now _
theorem spec_All_ev {d : List S84} {a f : Int} {l : List S71} {p : List Bool} (hd : d.length ≤ 100000000) : Ev (fun k => spec_FoodInAll.f k d a f l p) (foodInAll d f) := by
  unfold spec_FoodInAll.f foodInAll
  have h0 := totalFood_le d
  have h1 := clamp_le f
  refine Ev.bind (spec_TotalFood_ev hd) ?_
  rw [minmax_bind, wrapId (n := totalFood d + clamp f) (by omega) (by omega)]
  exact Ev.now _
def okS86 (x : S86) : Prop := (Lit.int .i64 x.f0).wf = true ∧ (Lit.int .i64 x.f1).wf = true
def okS93 (x : S93) : Prop := (Lit.int .i64 x.f0).wf = true ∧ (Lit.int .i64 x.f1).wf = true ∧ (Lit.int .i64 x.f2).wf = true ∧ True
def FnExactFoodInAll.Claim : Prop := ∀ (l0 : List (S86)) (a1_0 : Int) (a1_1 : Int) (l1_2 : List (S93)) (l1_3 : List (Bool)), l0.length ≤ maxLen → (∀ x ∈ l0, okS86 x) → (Lit.int .i64 a1_0).wf = true → (Lit.int .i64 a1_1).wf = true → l1_2.length ≤ maxLen → (∀ x ∈ l1_2, okS93 x) → l1_3.length ≤ maxLen → (∀ x ∈ l1_3, True) → ∃ k, laws_FnExactFoodInAll.f k l0 a1_0 a1_1 l1_2 l1_3 = some true
theorem FnExactFoodInAll : FnExactFoodInAll.Claim := by
  intro d a f l p hd _ _ _ hm _ hp _
  apply Ev.rounds
  unfold laws_FnExactFoodInAll.f
  rw [szDepotS_ok hd (by omega) (by omega)]
  simp only [Option.bind_some]
  by_cases q : (d.length : Int) ≤ 1048576
  · rw [if_pos q]
    refine evNeg (by omega) ?_
    rw [szParty_ok hm hp (by omega) (by omega)]
    simp only [Option.bind_some]
    by_cases c : (l.length : Int) + (p.length : Int) ≤ 1048576 - (d.length : Int)
    · rw [if_pos c]
      refine evNeg (by omega) ?_
      have hd' : d.length ≤ 1048576 := by omega
      have hdd : (d.map dep).length ≤ 1048576 := by rw [List.length_map]; exact hd'
      have hl : l.length ≤ 1048576 := by omega
      have hp' : p.length ≤ 1048576 := by omega
      have hl' : (l.map mem).length ≤ 1048576 := by rw [List.length_map]; exact hl
      exact Ev.bind (toDepotS_ev hd') (Ev.bind (toParty_ev hl hp') (Ev.bind (spec_All_ev (by omega)) (Ev.bind (toDepotS_ev hd') (Ev.bind (toParty_ev hl hp') (Ev.bind (impl_All_ev (by omega)) (evPos rfl (Ev.bind (toDepotS_ev hd') (Ev.bind (eqDepotS_same (by omega)) (evPos rfl (Ev.bind (toParty_ev hl hp') (Ev.bind (eqParty_same hl' hp') (evPos rfl (Ev.now _)))))))))))))
    · rw [if_neg c]
      exact evPos (by omega) (Ev.now _)
  · rw [if_neg q]
    exact evPos (by omega) (Ev.now _)
end Go.Proofs.Ytkdclkbgejbgjae.Pure
