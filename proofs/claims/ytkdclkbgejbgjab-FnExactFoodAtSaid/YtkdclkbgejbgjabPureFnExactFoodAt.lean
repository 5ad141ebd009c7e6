/- For every list of depots and every cell, the program's FoodAt and the reference's give the same answer: the law's Go function answers true. No condition beyond the kinds of the numbers. -/
import Derived.Test.YtkdclkbgejbgjabPFnExactFoodAtx2
import Derived.Test.YtkdclkbgejbgjabAid
namespace Go.Proofs.Ytkdclkbgejbgjab.Pure
open Go.RowKit Go.Proofs.Ytkdclkbgejbgjab.PFnExactFoodAt Go.Proofs.Ytkdclkbgejbgjab.Aid Go.Proofs.YtkdclkbgejbgjabW.PrintWords Go.Proofs.YtkdclkbgejbgjabW.PrintLast Go.Proofs.YtkdclkbgejbgjabW.PrintMore
set_option linter.unusedVariables false
set_option linter.unusedSimpArgs false
theorem szDepotS_ok {l : List S70} {q : Int} (hl : l.length ≤ maxLen) (h0 : 0 ≤ q) (h1 : q ≤ 1048576) : laws_szDepotS.f l q = some (if (l.length : Int) ≤ q then q - (l.length : Int) else -1) := by
  unfold laws_szDepotS.f
  unfold maxLen at hl
  rw [wrapId (n := q - (l.length : Int)) (by omega) (by omega)]
  by_cases c : (l.length : Int) ≤ q
  · rw [if_neg (by omega), if_pos c]
  · rw [if_pos (by omega), if_neg c]

def dep (x : S70) : S68 := ⟨x.f0, x.f1⟩
theorem rdD {xs : List S68} {i : Nat} (h : i < xs.length) : rd_T68 xs (i : Int) = xs[i] := by
  unfold rd_T68
  rw [Int.toNat_natCast, getD_lt h]
theorem rdLD {xs : List S70} {i : Nat} (h : i < xs.length) : rd_T70 xs (i : Int) = xs[i] := by
  unfold rd_T70
  rw [Int.toNat_natCast, getD_lt h]
theorem toDepotS_ev {l : List S70} (hl : l.length ≤ 1048576) : Ev (fun k => laws_toDepotS.f k l) (l.map dep) := by
  have key := evScan l (fun k (acc : List S68) i => laws_toDepotS.l0 k l acc i) (fun _ _ _ => l.map dep) (fun acc i => acc.length = (l.map dep).length ∧ acc.take i = (l.map dep).take i) (fun acc ⟨h0, h1⟩ => by
      refine Ev.step (f := fun _ => some acc) (fun k => ?_) ?_
      · simp only [laws_toDepotS.l0]
        rw [if_neg (by omega)]
      · rw [take_whole h0 (by rw [List.length_map]; exact h1)]
        exact Ev.now _) (fun acc i t h ht ⟨h0, h1⟩ ih => by
      have hm : i < (l.map dep).length := by rw [List.length_map]; exact h
      have hs := take_set_succ hm h0 h1
      rw [List.length_map] at h0
      refine Ev.step (fun k => ?_) (ih (acc.set i (l.map dep)[i]) ⟨by simpa using h0, hs⟩)
      simp only [laws_toDepotS.l0, laws_toDepot.f, Option.bind_some]
      rw [if_pos (by omega), if_pos (by omega), if_pos (by omega), rdLD h, wrapSucc (by omega), toNatCast, List.getElem_map]
      rfl)
    (List.replicate l.length z68) ⟨by simp, by simp⟩
  refine Ev.congr (fun k => ?_) key
  simp only [laws_toDepotS.f]
  rw [if_pos (by omega), if_pos (by omega), toNatCast]

theorem eqDepotS_same {a : List S68} (ha : a.length ≤ 2000000) : Ev (fun k => laws_eqDepotS.f k a a) true := by
  have key := evScan a (fun k (_ : Unit) i => laws_eqDepotS.l0 k a a i) (fun _ _ _ => true) (fun _ _ => True) (fun _ _ => by
      refine Ev.step (f := fun _ => some true) (fun k => ?_) (Ev.now _)
      simp only [laws_eqDepotS.l0]
      rw [if_neg (by omega)]) (fun _ i t h _ _ ih => by
      refine Ev.step (fun k => ?_) (ih () trivial)
      simp only [laws_eqDepotS.l0, laws_eqDepot.f, if_true, Option.bind_some]
      rw [if_pos (by omega), if_pos (by omega), if_pos (by omega), wrapSucc (by omega)])
    () trivial
  refine Ev.congr (fun k => ?_) key
  simp only [laws_eqDepotS.f, if_true]

def foodAt (c : Int) : List S68 → Int
  | [] => 0
  | d :: t => if d.f0 = c then d.f1 else foodAt c t
theorem impl_FoodAt_ev {l : List S68} (c : Int) (hl : l.length ≤ 100000000) : Ev (fun k => impl_FoodAt.f k l c) (foodAt c l) := by
  have key := evScan l (fun k (_ : Unit) i => impl_FoodAt.l0 k c l (l.length : Int) i) (fun _ i t => foodAt c t) (fun _ _ => True) (fun _ _ => by
      refine Ev.step (f := fun _ => some 0) (fun k => ?_) (Ev.now _)
      simp only [impl_FoodAt.l0]
      rw [if_neg (by omega)]) (fun _ i t h _ _ ih => by
      have st : ∀ k, impl_FoodAt.l0 (k + 1) c l (l.length : Int) (i : Int) = if l[i].f0 = c then some l[i].f1 else impl_FoodAt.l0 k c l (l.length : Int) ((i + 1 : Nat) : Int) := by
        intro k
        simp only [impl_FoodAt.l0]
        rw [if_pos (by omega), if_pos (by omega), if_pos (by omega), rdD h, wrapSucc (by omega)]
      refine Ev.step st ?_
      simp only [foodAt]
      by_cases d : l[i].f0 = c
      · rw [if_pos d]
        exact evPos d (Ev.now _)
      · rw [if_neg d]
        exact evNeg d (ih () trivial))
    () trivial
  unfold impl_FoodAt.f
  exact key

theorem spec_FoodAt_ev {l : List S68} (c : Int) (hl : l.length ≤ 100000000) : Ev (fun k => spec_FoodAt.f k l c) (foodAt c l) := by
  have key := evScan l (fun k (_ : Unit) i => spec_FoodAt.l0 k l c i) (fun _ i t => foodAt c t) (fun _ _ => True) (fun _ _ => by
      refine Ev.step (f := fun _ => some 0) (fun k => ?_) (Ev.now _)
      simp only [spec_FoodAt.l0]
      rw [if_neg (by omega)]) (fun _ i t h _ _ ih => by
      have st : ∀ k, spec_FoodAt.l0 (k + 1) l c (i : Int) = if l[i].f0 = c then some l[i].f1 else spec_FoodAt.l0 k l c ((i + 1 : Nat) : Int) := by
        intro k
        simp only [spec_FoodAt.l0]
        rw [if_pos (by omega), if_pos (by omega), rdD h, wrapSucc (by omega)]
      refine Ev.step st ?_
      simp only [foodAt]
      by_cases d : l[i].f0 = c
      · rw [if_pos d]
        exact evPos d (Ev.now _)
      · rw [if_neg d]
        exact evNeg d (ih () trivial))
    () trivial
  unfold spec_FoodAt.f
  exact key

def okS70 (x : S70) : Prop := (Lit.int .i64 x.f0).wf = true ∧ (Lit.int .i64 x.f1).wf = true
def FnExactFoodAt.Claim : Prop := ∀ (l0 : List (S70)) (a1 : Int), l0.length ≤ maxLen → (∀ x ∈ l0, okS70 x) → (Lit.int .i64 a1).wf = true → ∃ k, laws_FnExactFoodAt.f k l0 a1 = some true
theorem FnExactFoodAt : FnExactFoodAt.Claim := by
  intro l c hm _ _
  apply Ev.rounds
  unfold laws_FnExactFoodAt.f
  rw [szDepotS_ok hm (by omega) (by omega)]
  simp only [Option.bind_some]
  by_cases q : (l.length : Int) ≤ 1048576
  · rw [if_pos q]
    refine evNeg (by omega) ?_
    have hl : l.length ≤ 1048576 := by omega
    have hl' : (l.map dep).length ≤ 1048576 := by rw [List.length_map]; exact hl
    refine Ev.bind (toDepotS_ev hl) (Ev.bind (spec_FoodAt_ev c (by omega)) (Ev.bind (toDepotS_ev hl) (Ev.bind (impl_FoodAt_ev c (by omega)) (evPos rfl (Ev.bind (toDepotS_ev hl) (Ev.bind (eqDepotS_same (by omega)) ?_))))))
    simp only [if_true]
    exact Ev.now _
  · rw [if_neg q]
    exact evPos (by omega) (Ev.now _)
end Go.Proofs.Ytkdclkbgejbgjab.Pure
