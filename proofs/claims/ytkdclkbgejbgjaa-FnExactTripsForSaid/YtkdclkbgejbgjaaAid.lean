/- Plain lemmas on rounds ('Ev': from some number of rounds on), lists and numbers, with no program in sight. -/
import Derived.Test.YtkdclkbgejbgjaaWWords
import Derived.Test.YtkdclkbgejbgjaaWMore
namespace Go.Proofs.Ytkdclkbgejbgjaa.Aid
open Go.RowKit Go.Proofs.YtkdclkbgejbgjaaW.PrintWords Go.Proofs.YtkdclkbgejbgjaaW.PrintLast Go.Proofs.YtkdclkbgejbgjaaW.PrintMore
set_option linter.unusedVariables false

/-! ### Rounds -/
theorem evEq {α : Type} {x : Option α} {r : α} (h : x = some r) : Ev (fun _ => x) r := ⟨0, fun _ _ => h⟩
theorem evPos {α : Type} {c : Prop} [Decidable c] {g f : Nat → Option α} {r : α} (hc : c) (h : Ev g r) : Ev (fun k => if c then g k else f k) r := by
  simpa only [if_pos hc] using h
theorem evNeg {α : Type} {c : Prop} [Decidable c] {g f : Nat → Option α} {r : α} (hc : ¬ c) (h : Ev f r) : Ev (fun k => if c then g k else f k) r := by
  simpa only [if_neg hc] using h
theorem evIte {α : Type} {c : Prop} [Decidable c] {g f : Nat → Option α} {r : α} (h : c → Ev g r) (h' : ¬ c → Ev f r) : Ev (fun k => if c then g k else f k) r := by
  by_cases hc : c
  · exact evPos hc (h hc)
  · exact evNeg hc (h' hc)
/-- It answers, and what is known of the answer. -/
def Evp {α : Type} (g : Nat → Option α) (P : α → Prop) : Prop := ∃ r, Ev g r ∧ P r
theorem Evp.of {α : Type} {g : Nat → Option α} {P : α → Prop} {r : α} (h : Ev g r) (hp : P r) : Evp g P := ⟨r, h, hp⟩
theorem Evp.now {α : Type} {P : α → Prop} {r : α} (hp : P r) : Evp (fun _ => some r) P := ⟨r, Ev.now r, hp⟩
theorem Evp.bind {α β : Type} {g : Nat → Option α} {f : Nat → α → Option β} {Q : α → Prop} {P : β → Prop} (h : Evp g Q) (k : ∀ a, Q a → Evp (fun n => f n a) P) : Evp (fun n => (g n).bind (f n)) P := by
  obtain ⟨a, ha, hq⟩ := h
  obtain ⟨r, hr, hp⟩ := k a hq
  exact ⟨r, Ev.bind ha hr, hp⟩
theorem Evp.bindE {α β : Type} {g : Nat → Option α} {f : Nat → α → Option β} {a : α} {P : β → Prop} (h : Ev g a) (k : Evp (fun n => f n a) P) : Evp (fun n => (g n).bind (f n)) P := by
  obtain ⟨r, hr, hp⟩ := k
  exact ⟨r, Ev.bind h hr, hp⟩
theorem Evp.step {α : Type} {g f : Nat → Option α} {P : α → Prop} (h : ∀ k, g (k + 1) = f k) (k : Evp f P) : Evp g P := by
  obtain ⟨r, hr, hp⟩ := k
  exact ⟨r, Ev.step h hr, hp⟩
theorem Evp.mono {α : Type} {g : Nat → Option α} {P Q : α → Prop} (h : Evp g P) (k : ∀ r, P r → Q r) : Evp g Q := by
  obtain ⟨r, hr, hp⟩ := h
  exact ⟨r, hr, k r hp⟩
theorem Evp.pos {α : Type} {c : Prop} [Decidable c] {g f : Nat → Option α} {P : α → Prop} (hc : c) (h : Evp g P) : Evp (fun k => if c then g k else f k) P := by
  simpa only [if_pos hc] using h
theorem Evp.neg {α : Type} {c : Prop} [Decidable c] {g f : Nat → Option α} {P : α → Prop} (hc : ¬ c) (h : Evp f P) : Evp (fun k => if c then g k else f k) P := by
  simpa only [if_neg hc] using h
theorem Evp.ite {α : Type} {c : Prop} [Decidable c] {g f : Nat → Option α} {P : α → Prop} (h : c → Evp g P) (h' : ¬ c → Evp f P) : Evp (fun k => if c then g k else f k) P := by
  by_cases hc : c
  · exact Evp.pos hc (h hc)
  · exact Evp.neg hc (h' hc)
theorem Evp.rounds {α : Type} {g : Nat → Option α} {r : α} (h : Evp g (fun x => x = r)) : ∃ k, g k = some r := by
  obtain ⟨q, hq, rfl⟩ := h
  exact Ev.rounds hq

/-! ### Numbers -/
theorem wrapId {n : Int} (h0 : -9223372036854775808 ≤ n) (h1 : n ≤ 9223372036854775807) : wrap64 n = n := by
  unfold wrap64
  omega
theorem wrapSucc {i : Nat} (h : i < 4611686018427387904) : wrap64 ((i : Int) + 1) = ((i + 1 : Nat) : Int) := by
  rw [wrapId (by omega) (by omega)]
  rfl
theorem rdAt (xs : List Int) (i : Nat) : rd xs (i : Int) = xs.getD i 0 := by
  unfold rd
  rw [Int.toNat_natCast]
theorem getD_lt {α : Type} {xs : List α} {i : Nat} {d : α} (h : i < xs.length) : xs.getD i d = xs[i] := by
  rw [List.getD_eq_getElem?_getD, List.getElem?_eq_getElem h]
  rfl
theorem wfIff (n : Int) : (Lit.int .i64 n).wf = true ↔ -9223372036854775808 ≤ n ∧ n ≤ 9223372036854775807 := by
  simp [Lit.wf, IntKind.min, IntKind.max, IntKind.signed, IntKind.bits]

end Go.Proofs.Ytkdclkbgejbgjaa.Aid
