/- Plain lemmas on rounds ('Ev': from some number of rounds on), lists and numbers, with no program in sight. -/
import Derived.Test.YtdgpnmbmnnmdcaaWWords
import Derived.Test.YtdgpnmbmnnmdcaaWMore
namespace Go.Proofs.Ytdgpnmbmnnmdcaa.Aid
open Go.RowKit Go.Proofs.YtdgpnmbmnnmdcaaW.PrintWords Go.Proofs.YtdgpnmbmnnmdcaaW.PrintLast Go.Proofs.YtdgpnmbmnnmdcaaW.PrintMore
set_option linter.unusedVariables false

/-! ### Rounds -/
theorem evEq {α : Type} {x : Option α} {r : α} (h : x = some r) : Ev (fun _ => x) r := ⟨0, fun _ _ => h⟩
theorem evPos {α : Type} {c : Prop} [Decidable c] {g f : Nat → Option α} {r : α} (hc : c) (h : Ev g r) : Ev (fun k => if c then g k else f k) r := by
  simpa only [if_pos hc] using h
theorem evNeg {α : Type} {c : Prop} [Decidable c] {g f : Nat → Option α} {r : α} (hc : ¬ c) (h : Ev f r) : Ev (fun k => if c then g k else f k) r := by
  simpa only [if_neg hc] using h
theorem evIte {α : Type} {c : Prop} [Decidable c] {g f : Nat → Option α} {r : α} (h : c → Ev g r) (h' : ¬ c → Ev f r) : Ev (fun k => if c then g k else f k) r := by
  by_cases hc : c
  · exact evPos hc (h hc)
  · exact evNeg hc (h' hc)
/-- It answers, and what is known of the answer. -/
def Evp {α : Type} (g : Nat → Option α) (P : α → Prop) : Prop := ∃ r, Ev g r ∧ P r
theorem Evp.of {α : Type} {g : Nat → Option α} {P : α → Prop} {r : α} (h : Ev g r) (hp : P r) : Evp g P := ⟨r, h, hp⟩
theorem Evp.now {α : Type} {P : α → Prop} {r : α} (hp : P r) : Evp (fun _ => some r) P := ⟨r, Ev.now r, hp⟩
theorem Evp.bind {α β : Type} {g : Nat → Option α} {f : Nat → α → Option β} {Q : α → Prop} {P : β → Prop} (h : Evp g Q) (k : ∀ a, Q a → Evp (fun n => f n a) P) : Evp (fun n => (g n).bind (f n)) P := by
  obtain ⟨a, ha, hq⟩ := h
  obtain ⟨r, hr, hp⟩ := k a hq
  exact ⟨r, Ev.bind ha hr, hp⟩
theorem Evp.bindE {α β : Type} {g : Nat → Option α} {f : Nat → α → Option β} {a : α} {P : β → Prop} (h : Ev g a) (k : Evp (fun n => f n a) P) : Evp (fun n => (g n).bind (f n)) P := by
  obtain ⟨r, hr, hp⟩ := k
  exact ⟨r, Ev.bind h hr, hp⟩
theorem Evp.step {α : Type} {g f : Nat → Option α} {P : α → Prop} (h : ∀ k, g (k + 1) = f k) (k : Evp f P) : Evp g P := by
  obtain ⟨r, hr, hp⟩ := k
  exact ⟨r, Ev.step h hr, hp⟩
theorem Evp.mono {α : Type} {g : Nat → Option α} {P Q : α → Prop} (h : Evp g P) (k : ∀ r, P r → Q r) : Evp g Q := by
  obtain ⟨r, hr, hp⟩ := h
  exact ⟨r, hr, k r hp⟩
theorem Evp.pos {α : Type} {c : Prop} [Decidable c] {g f : Nat → Option α} {P : α → Prop} (hc : c) (h : Evp g P) : Evp (fun k => if c then g k else f k) P := by
  simpa only [if_pos hc] using h
theorem Evp.neg {α : Type} {c : Prop} [Decidable c] {g f : Nat → Option α} {P : α → Prop} (hc : ¬ c) (h : Evp f P) : Evp (fun k => if c then g k else f k) P := by
  simpa only [if_neg hc] using h
theorem Evp.ite {α : Type} {c : Prop} [Decidable c] {g f : Nat → Option α} {P : α → Prop} (h : c → Evp g P) (h' : ¬ c → Evp f P) : Evp (fun k => if c then g k else f k) P := by
  by_cases hc : c
  · exact Evp.pos hc (h hc)
  · exact Evp.neg hc (h' hc)
theorem Evp.rounds {α : Type} {g : Nat → Option α} {r : α} (h : Evp g (fun x => x = r)) : ∃ k, g k = some r := by
  obtain ⟨q, hq, rfl⟩ := h
  exact Ev.rounds hq

/-! ### Numbers -/
theorem wrapId {n : Int} (h0 : -9223372036854775808 ≤ n) (h1 : n ≤ 9223372036854775807) : wrap64 n = n := by
  unfold wrap64
  omega
theorem wrapSucc {i : Nat} (h : i < 4611686018427387904) : wrap64 ((i : Int) + 1) = ((i + 1 : Nat) : Int) := by
  rw [wrapId (by omega) (by omega)]
  rfl
theorem rdAt (xs : List Int) (i : Nat) : rd xs (i : Int) = xs.getD i 0 := by
  unfold rd
  rw [Int.toNat_natCast]
theorem getD_lt {α : Type} {xs : List α} {i : Nat} {d : α} (h : i < xs.length) : xs.getD i d = xs[i] := by
  rw [List.getD_eq_getElem?_getD, List.getElem?_eq_getElem h]
  rfl
theorem wfIff (n : Int) : (Lit.int .i64 n).wf = true ↔ -9223372036854775808 ≤ n ∧ n ≤ 9223372036854775807 := by
  simp [Lit.wf, IntKind.min, IntKind.max, IntKind.signed, IntKind.bits]

/-! ### Loops over a list -/
/-- A loop that goes over a list from its front: what it comes to, from a state and what is left. -/
theorem evScan {α σ ρ : Type} (xs : List α) (l : Nat → σ → Int → Option ρ) (F : σ → Nat → List α → ρ) (I : σ → Nat → Prop)
    (hend : ∀ s, I s xs.length → Ev (fun k => l k s (xs.length : Int)) (F s xs.length []))
    (hstep : ∀ s i t (h : i < xs.length), t = xs.drop (i + 1) → I s i → (∀ s', I s' (i + 1) → Ev (fun k => l k s' ((i + 1 : Nat) : Int)) (F s' (i + 1) t)) → Ev (fun k => l k s (i : Int)) (F s i (xs[i] :: t))) :
    ∀ s, I s 0 → Ev (fun k => l k s 0) (F s 0 xs) := by
  have key : ∀ (d i : Nat), i + d = xs.length → ∀ s, I s i → Ev (fun k => l k s (i : Int)) (F s i (xs.drop i)) := by
    intro d
    induction d with
    | zero =>
      intro i hi s hs
      obtain rfl : i = xs.length := by omega
      rw [List.drop_length]
      exact hend s hs
    | succ d ih =>
      intro i hi s hs
      have h : i < xs.length := by omega
      rw [List.drop_eq_getElem_cons h]
      exact hstep s i _ h rfl hs (fun s' hs' => ih (i + 1) (by omega) s' hs')
  intro s hs
  have := key xs.length 0 (by omega) s hs
  simpa using this
theorem rdIn {xs : List Int} {i : Nat} (h : i < xs.length) : rd xs (i : Int) = xs[i] := by
  rw [rdAt, getD_lt h]
theorem toNatCast (i : Nat) : ((i : Int)).toNat = i := Int.toNat_natCast i
/-- What marks: k, k + 1, .. -/
def seqFrom (k : Int) (n : Nat) : List Int := (List.range n).map (fun (j : Nat) => k + (j : Int))
theorem seqFrom_length (k : Int) (n : Nat) : (seqFrom k n).length = n := by simp [seqFrom]
theorem seqFrom_at (k : Int) (n i : Nat) (h : i < (seqFrom k n).length) : (seqFrom k n)[i] = k + (i : Int) := by simp [seqFrom]
theorem take_set_succ {α : Type} {acc xs : List α} {i : Nat} (h : i < xs.length) (ha : acc.length = xs.length) (ht : acc.take i = xs.take i) : (acc.set i xs[i]).take (i + 1) = xs.take (i + 1) := by
  rw [List.take_succ_eq_append_getElem (by simpa using (by omega : i < acc.length)), List.take_succ_eq_append_getElem h, List.getElem_set_self, List.take_set_of_le (Nat.le_refl i), ht]
theorem take_whole {α : Type} {acc xs : List α} (ha : acc.length = xs.length) (ht : acc.take xs.length = xs.take xs.length) : acc = xs := by
  rw [List.take_length] at ht
  rw [List.take_of_length_le (by omega)] at ht
  exact ht

end Go.Proofs.Ytdgpnmbmnnmdcaa.Aid
