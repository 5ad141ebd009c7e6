/- For every list of depots, the program's TotalFood and the reference's give the same answer: the law's Go function answers true. No condition beyond the kinds of the numbers. -/
import Derived.Test.YtkdclkbgejbgjabPFnExactTotalFoodx2
import Derived.Test.YtkdclkbgejbgjabAid
namespace Go.Proofs.Ytkdclkbgejbgjab.Pure
open Go.RowKit Go.Proofs.Ytkdclkbgejbgjab.PFnExactTotalFood Go.Proofs.Ytkdclkbgejbgjab.Aid Go.Proofs.YtkdclkbgejbgjabW.PrintWords Go.Proofs.YtkdclkbgejbgjabW.PrintLast Go.Proofs.YtkdclkbgejbgjabW.PrintMore
set_option linter.unusedVariables false
set_option linter.unusedSimpArgs false
theorem szDepotS_ok {l : List S70} {q : Int} (hl : l.length ≤ maxLen) (h0 : 0 ≤ q) (h1 : q ≤ 1048576) : laws_szDepotS.f l q = some (if (l.length : Int) ≤ q then q - (l.length : Int) else -1) := by
  unfold laws_szDepotS.f
  unfold maxLen at hl
  rw [wrapId (n := q - (l.length : Int)) (by omega) (by omega)]
  by_cases c : (l.length : Int) ≤ q
  · rw [if_neg (by omega), if_pos c]
  · rw [if_pos (by omega), if_neg c]

def dep (x : S70) : S68 := ⟨x.f0, x.f1⟩
theorem rdD {xs : List S68} {i : Nat} (h : i < xs.length) : rd_T68 xs (i : Int) = xs[i] := by
  unfold rd_T68
  rw [Int.toNat_natCast, getD_lt h]
theorem rdLD {xs : List S70} {i : Nat} (h : i < xs.length) : rd_T70 xs (i : Int) = xs[i] := by
  unfold rd_T70
  rw [Int.toNat_natCast, getD_lt h]
theorem toDepotS_ev {l : List S70} (hl : l.length ≤ 1048576) : Ev (fun k => laws_toDepotS.f k l) (l.map dep) := by
  have key := evScan l (fun k (acc : List S68) i => laws_toDepotS.l0 k l acc i) (fun _ _ _ => l.map dep) (fun acc i => acc.length = (l.map dep).length ∧ acc.take i = (l.map dep).take i) (fun acc ⟨h0, h1⟩ => by
      refine Ev.step (f := fun _ => some acc) (fun k => ?_) ?_
      · simp only [laws_toDepotS.l0]
        rw [if_neg (by omega)]
      · rw [take_whole h0 (by rw [List.length_map]; exact h1)]
        exact Ev.now _) (fun acc i t h ht ⟨h0, h1⟩ ih => by
      have hm : i < (l.map dep).length := by rw [List.length_map]; exact h
      have hs := take_set_succ hm h0 h1
      rw [List.length_map] at h0
      refine Ev.step (fun k => ?_) (ih (acc.set i (l.map dep)[i]) ⟨by simpa using h0, hs⟩)
      simp only [laws_toDepotS.l0, laws_toDepot.f, Option.bind_some]
      rw [if_pos (by omega), if_pos (by omega), if_pos (by omega), rdLD h, wrapSucc (by omega), toNatCast, List.getElem_map]
      rfl)
    (List.replicate l.length z68) ⟨by simp, by simp⟩
  refine Ev.congr (fun k => ?_) key
  simp only [laws_toDepotS.f]
  rw [if_pos (by omega), if_pos (by omega), toNatCast]

theorem eqDepotS_same {a : List S68} (ha : a.length ≤ 2000000) : Ev (fun k => laws_eqDepotS.f k a a) true := by
  have key := evScan a (fun k (_ : Unit) i => laws_eqDepotS.l0 k a a i) (fun _ _ _ => true) (fun _ _ => True) (fun _ _ => by
      refine Ev.step (f := fun _ => some true) (fun k => ?_) (Ev.now _)
      simp only [laws_eqDepotS.l0]
      rw [if_neg (by omega)]) (fun _ i t h _ _ ih => by
      refine Ev.step (fun k => ?_) (ih () trivial)
      simp only [laws_eqDepotS.l0, laws_eqDepot.f, if_true, Option.bind_some]
      rw [if_pos (by omega), if_pos (by omega), if_pos (by omega), wrapSucc (by omega)])
    () trivial
  refine Ev.congr (fun k => ?_) key
  simp only [laws_eqDepotS.f, if_true]

def clamp (x : Int) : Int := if x < 0 then 0 else if 10000 < x then 10000 else x
def totalFood : List S68 → Int
  | [] => 0
  | d :: t => clamp d.f1 + totalFood t
theorem clamp_le (x : Int) : 0 ≤ clamp x ∧ clamp x ≤ 10000 := by
  unfold clamp
  split
  · omega
  · split <;> omega
theorem mnmx (x : Int) : mn (mx x 0) 10000 = clamp x := by
  unfold mn mx clamp
  repeat' split
  all_goals omega
theorem totalFood_le : ∀ l : List S68, 0 ≤ totalFood l ∧ totalFood l ≤ 10000 * (l.length : Int)
  | [] => by simp [totalFood]
  | d :: t => by
    have := totalFood_le t
    have := clamp_le d.f1
    simp only [totalFood, List.length_cons, Int.natCast_add]
    omega
theorem impl_TotalFood_ev {l : List S68} (hl : l.length ≤ 100000000) : Ev (fun k => impl_TotalFood.f k l) (totalFood l) := by
  have key := evScan l (fun k (acc : Int) i => impl_TotalFood.l0 k acc l (l.length : Int) i) (fun acc i t => acc + totalFood t) (fun acc i => 0 ≤ acc ∧ acc ≤ 10000 * (i : Int)) (fun acc _ => by
      rw [show acc + totalFood [] = acc by simp [totalFood]]
      refine Ev.step (f := fun _ => some acc) (fun k => ?_) (Ev.now _)
      simp only [impl_TotalFood.l0]
      rw [if_neg (by omega)]) (fun acc i t h _ hi ih => by
      have hc := clamp_le l[i].f1
      have := ih (acc + clamp l[i].f1) (by omega)
      rw [show acc + clamp l[i].f1 + totalFood t = acc + totalFood (l[i] :: t) by simp only [totalFood]; omega] at this
      refine Ev.step (fun k => ?_) this
      simp only [impl_TotalFood.l0]
      rw [if_pos (by omega), if_pos (by omega), if_pos (by omega), rdD h, wrapSucc (by omega), mnmx, wrapId (n := acc + clamp l[i].f1) (by omega) (by omega)])
    0 (by omega)
  unfold impl_TotalFood.f
  simpa using key

theorem minmax (x : Int) : (spec_Min.f 10000 x).bind (fun t => spec_Max.f 0 t) = some (clamp x) := by
  unfold spec_Min.f spec_Max.f clamp
  by_cases c : x < 10000
  · rw [if_pos c]
    simp only [Option.bind_some]
    by_cases d : x > 0
    · rw [if_pos d, if_neg (by omega), if_neg (by omega)]
    · rw [if_neg d]
      by_cases e : x < 0
      · rw [if_pos e]
      · rw [if_neg e, if_neg (by omega)]
        congr 1
        omega
  · rw [if_neg c]
    simp only [Option.bind_some]
    rw [if_pos (by omega), if_neg (by omega)]
    by_cases e : 10000 < x
    · rw [if_pos e]
    · rw [if_neg e]
      congr 1
      omega
theorem minmax_bind {β : Type} (x : Int) (g : Int → Option β) : ((spec_Min.f 10000 x).bind fun t => (spec_Max.f 0 t).bind g) = g (clamp x) := by
  rw [← Option.bind_assoc, minmax, Option.bind_some]
theorem spec_TotalFood_ev {l : List S68} (hl : l.length ≤ 100000000) : Ev (fun k => spec_TotalFood.f k l) (totalFood l) := by
  have key := evScan l (fun k (acc : Int) i => spec_TotalFood.l0 k l acc i) (fun acc i t => acc + totalFood t) (fun acc i => 0 ≤ acc ∧ acc ≤ 10000 * (i : Int)) (fun acc _ => by
      rw [show acc + totalFood [] = acc by simp [totalFood]]
      refine Ev.step (f := fun _ => some acc) (fun k => ?_) (Ev.now _)
      simp only [spec_TotalFood.l0]
      rw [if_neg (by omega)]) (fun acc i t h _ hi ih => by
      have hc := clamp_le l[i].f1
      have := ih (acc + clamp l[i].f1) (by omega)
      rw [show acc + clamp l[i].f1 + totalFood t = acc + totalFood (l[i] :: t) by simp only [totalFood]; omega] at this
      refine Ev.step (fun k => ?_) this
      simp only [spec_TotalFood.l0]
      rw [if_pos (by omega), if_pos (by omega), rdD h, minmax_bind, wrapSucc (by omega), wrapId (n := acc + clamp l[i].f1) (by omega) (by omega)])
    0 (by omega)
  unfold spec_TotalFood.f
  simpa using key

def okS70 (x : S70) : Prop := (Lit.int .i64 x.f0).wf = true ∧ (Lit.int .i64 x.f1).wf = true
def FnExactTotalFood.Claim : Prop := ∀ (l0 : List (S70)), l0.length ≤ maxLen → (∀ x ∈ l0, okS70 x) → ∃ k, laws_FnExactTotalFood.f k l0 = some true
theorem FnExactTotalFood : FnExactTotalFood.Claim := by
  intro l hm _
  apply Ev.rounds
  unfold laws_FnExactTotalFood.f
  rw [szDepotS_ok hm (by omega) (by omega)]
  simp only [Option.bind_some]
  by_cases q : (l.length : Int) ≤ 1048576
  · rw [if_pos q]
    refine evNeg (by omega) ?_
    have hl : l.length ≤ 1048576 := by omega
    have hl' : (l.map dep).length ≤ 1048576 := by rw [List.length_map]; exact hl
    refine Ev.bind (toDepotS_ev hl) (Ev.bind (spec_TotalFood_ev (by omega)) (Ev.bind (toDepotS_ev hl) (Ev.bind (impl_TotalFood_ev (by omega)) (evPos rfl (Ev.bind (toDepotS_ev hl) (Ev.bind (eqDepotS_same (by omega)) ?_))))))
    simp only [if_true]
    exact Ev.now _
  · rw [if_neg q]
    exact evPos (by omega) (Ev.now _)
end Go.Proofs.Ytkdclkbgejbgjab.Pure
