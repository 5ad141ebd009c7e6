/- An argument's reading opened to the print's own kinds ('Kd'): whole numbers, bools, structs of one-cell fields, slices of any of these, slices of slices. No program in sight. -/
import Derived.Test.YtdgpnmbmnnmdcaaWWords
import Derived.Test.YtdgpnmbmnnmdcaaWMore
import Derived.Deep.Slices
import Derived.Deep.Fields
import Derived.Lib.SmallJoins
import Derived.ChangeArms
import Derived.DataReads
namespace Go.Proofs.Ytdgpnmbmnnmdcaa.Open
open Go Go.RowKit Go.ChangeShapes Go.WideShapes Go.Deep Go.Joins Go.Proofs.YtdgpnmbmnnmdcaaW.PrintWords Go.Proofs.YtdgpnmbmnnmdcaaW.PrintLast Go.Proofs.YtdgpnmbmnnmdcaaW.PrintMore
set_option linter.unusedVariables false
section
variable {H : Type} {enc : TypeId × Value → H} {P : Program} {w : World} {α β γ δ : Type}

/-- Whatever reads as a value of the type e is one of the kind d, and 'ok' holds of it. -/
def Opens (enc : TypeId × Value → H) (P : Program) (w : World) (d : Kd α) (e : TypeId) (ok : α → Prop) : Prop :=
  ∀ n cs y, DataW.trod enc P w 0 (fun _ => true) true n e cs = some y → ∃ x, d.K w x cs ∧ ok x

theorem opens_int {k : IntKind} {e : TypeId} (hu : P.underlying e = some (.int k)) : Opens enc P w (Kd.int k) e (fun x => (Lit.int k x).wf = true) := by
  intro n cs y h
  obtain ⟨x, rfl, _, hw⟩ := DataW.trod_int hu h
  exact ⟨x, rfl, hw⟩
theorem opens_bool {e : TypeId} (hu : P.underlying e = some .bool) : Opens enc P w Kd.bool e (fun _ => True) := by
  intro n cs y h
  obtain ⟨x, rfl, _⟩ := DataW.trod_bool hu h
  exact ⟨x, rfl, trivial⟩
theorem opens_iso {d : Kd α} {e : TypeId} {ok : α → Prop} (f : β → α) (g : α → β) (hfg : ∀ x, f (g x) = x) (h : Opens enc P w d e ok) : Opens enc P w (Kd.iso d f) e (fun y => ok (f y)) := by
  intro n cs y hy
  obtain ⟨x, hx, ho⟩ := h n cs y hy
  refine ⟨g x, ?_, ?_⟩
  · show d.K w (f (g x)) cs
    rw [hfg]
    exact hx
  · show ok (f (g x))
    rw [hfg]
    exact ho
theorem opens_pair2 {a : Kd α} {b : Kd β} {t : TypeId} {f0 f1 : Field} {p0 : α → Prop} {p1 : β → Prop} (hs : P.underlying t = some (.struct #[f0, f1])) (hone : oneCellFields P #[f0, f1] = true) (hC : P.cellsOf t = 2)
    (h0 : Opens enc P w a f0.type p0) (h1 : Opens enc P w b f1.type p1) : Opens enc P w (Kd.pair a b) t (fun x => p0 x.1 ∧ p1 x.2) := by
  intro n cs y h
  obtain ⟨y0, y1, m, _, hl, t0, t1⟩ := trod_struct2 hs h
  rw [hC] at hl
  match cs, hl with
  | [c0, c1], _ =>
    obtain ⟨o0, k0⟩ := hone_of hone 0 f0 rfl
    obtain ⟨o1, k1⟩ := hone_of hone 1 f1 rfl
    rw [o0, k0] at t0
    rw [o1, k1] at t1
    obtain ⟨x0, q0, r0⟩ := h0 _ _ _ t0
    obtain ⟨x1, q1, r1⟩ := h1 _ _ _ t1
    exact ⟨(x0, x1), ⟨[c0], [c1], rfl, q0, q1⟩, r0, r1⟩
theorem opens_pair4 {a : Kd α} {b : Kd β} {c : Kd γ} {d : Kd δ} {t : TypeId} {f0 f1 f2 f3 : Field} {p0 : α → Prop} {p1 : β → Prop} {p2 : γ → Prop} {p3 : δ → Prop} (hs : P.underlying t = some (.struct #[f0, f1, f2, f3])) (hone : oneCellFields P #[f0, f1, f2, f3] = true) (hC : P.cellsOf t = 4)
    (h0 : Opens enc P w a f0.type p0) (h1 : Opens enc P w b f1.type p1) (h2 : Opens enc P w c f2.type p2) (h3 : Opens enc P w d f3.type p3) : Opens enc P w (Kd.pair a (Kd.pair b (Kd.pair c d))) t (fun x => p0 x.1 ∧ p1 x.2.1 ∧ p2 x.2.2.1 ∧ p3 x.2.2.2) := by
  intro n cs y h
  obtain ⟨y0, y1, y2, y3, m, _, hl, t0, t1, t2, t3⟩ := trod_struct4 hs h
  rw [hC] at hl
  match cs, hl with
  | [c0, c1, c2, c3], _ =>
    obtain ⟨o0, k0⟩ := hone_of hone 0 f0 rfl
    obtain ⟨o1, k1⟩ := hone_of hone 1 f1 rfl
    obtain ⟨o2, k2⟩ := hone_of hone 2 f2 rfl
    obtain ⟨o3, k3⟩ := hone_of hone 3 f3 rfl
    rw [o0, k0] at t0
    rw [o1, k1] at t1
    rw [o2, k2] at t2
    rw [o3, k3] at t3
    obtain ⟨x0, q0, r0⟩ := h0 _ _ _ t0
    obtain ⟨x1, q1, r1⟩ := h1 _ _ _ t1
    obtain ⟨x2, q2, r2⟩ := h2 _ _ _ t2
    obtain ⟨x3, q3, r3⟩ := h3 _ _ _ t3
    exact ⟨(x0, x1, x2, x3), ⟨[c0], [c1, c2, c3], rfl, q0, [c1], [c2, c3], rfl, q1, [c2], [c3], rfl, q2, q3⟩, r0, r1, r2, r3⟩
theorem opens_slice {d : Kd α} {t e : TypeId} {ok : α → Prop} (hu : P.underlying t = some (.slice e)) (hsz : P.cellsOf e = d.sz) (hd : Opens enc P w d e ok) : Opens enc P w (Kd.slice e d) t (fun xs => xs.length ≤ maxLen ∧ ∀ x ∈ xs, ok x) := by
  intro n cs y h
  rcases open_slice hu h with ⟨rfl, _⟩ | ⟨a, len, cap, m, n', D, Pl, rfl, _, hl, hm, hmm, _, hi⟩
  · exact ⟨[], ⟨none, 0, rfl, Nat.le_refl _, rfl, Nat.zero_le _, fun h => absurd h (Nat.lt_irrefl _)⟩, Nat.zero_le _, fun x hx => by cases hx⟩
  simp only [if_true] at hmm
  subst hmm
  have key : ∀ i, i < m → ∃ x, (∃ cs', w.cells? 0 (a.add (i * P.cellsOf e)) (P.cellsOf e) = some cs' ∧ d.K w x cs') ∧ ok x := by
    intro i him
    obtain ⟨cs', hc, ht⟩ := hi i him
    obtain ⟨x, hx, ho⟩ := hd _ _ _ ht
    exact ⟨x, ⟨cs', hc, hx⟩, ho⟩
  have fam : ∃ X : Fin m → α, ∀ i : Fin m, (∃ cs', w.cells? 0 (a.add (i.1 * P.cellsOf e)) (P.cellsOf e) = some cs' ∧ d.K w (X i) cs') ∧ ok (X i) := by
    classical
    exact ⟨fun i => Classical.choose (key i.1 i.2), fun i => Classical.choose_spec (key i.1 i.2)⟩
  obtain ⟨X, hX⟩ := fam
  have hlen : (List.ofFn fun i : Fin len => X ⟨i.1, by omega⟩).length = len := by simp
  refine ⟨List.ofFn fun i : Fin len => X ⟨i.1, by omega⟩, ⟨some a, m, by rw [hlen], by rw [hlen]; exact hl, rfl, by rw [hlen]; unfold maxLen at hm; omega, fun _ => ⟨a, rfl, fun j p hj => ?_⟩⟩, by rw [hlen]; omega, fun x hx => ?_⟩
  · have hjl : j < len := by
      have := (List.getElem?_eq_some_iff.1 hj).1
      simpa using this
    have hp : X ⟨j, by omega⟩ = p := by
      have := (List.getElem?_eq_some_iff.1 hj).2
      simpa using this
    obtain ⟨⟨cs', hc, hk⟩, _⟩ := hX ⟨j, by omega⟩
    obtain ⟨_, hcl, hat⟩ := World.cells?_some hc
    refine ⟨cs', hcl.trans hsz, hp ▸ hk, fun i u hu' => ?_⟩
    have hil : i < P.cellsOf e := by
      have := (List.getElem?_eq_some_iff.1 hu').1
      omega
    have h2 := hat i hil
    rw [hu', hsz] at h2
    rw [← Go.Deep.add_add]
    exact h2
  · obtain ⟨i, rfl⟩ := List.mem_ofFn.1 hx
    exact (hX _).2

/-- A slice, as an argument or a field. -/
theorem open_row {d : Kd α} {t e : TypeId} {ok : α → Prop} {n : Nat} {v : Value} {y : DataW H × List MemPlace} (hu : P.underlying t = some (.slice e)) (hsz : P.cellsOf e = d.sz) (hd : Opens enc P w d e ok) (h : DataW.trod enc P w 0 (fun _ => true) true n t [v] = some y) :
    ∃ (A : Option Addr) (c : Nat) (xs : List α), v = .slice A xs.length c ∧ d.C w A xs.length xs ∧ xs.length ≤ c ∧ xs.length ≤ maxLen ∧ ∀ x ∈ xs, ok x := by
  obtain ⟨xs, ⟨A, c, hv, hc, hC⟩, hl, ho⟩ := opens_slice hu hsz hd _ _ _ h
  simp only [List.cons.injEq, and_true] at hv
  exact ⟨A, c, xs, hv, hC, hc, hl, ho⟩
theorem field_int {t : TypeId} {k : IntKind} {n : Nat} {v : Value} {y : DataW H × List MemPlace} (hu : P.underlying t = some (.int k)) (h : DataW.trod enc P w 0 (fun _ => true) true n t [v] = some y) : ∃ x, v = .int k x ∧ (Lit.int k x).wf = true := by
  obtain ⟨x, hx, _, hw⟩ := DataW.trod_int hu h
  simp only [List.cons.injEq, and_true] at hx
  exact ⟨x, hx, hw⟩
theorem field_bool {t : TypeId} {n : Nat} {v : Value} {y : DataW H × List MemPlace} (hu : P.underlying t = some .bool) (h : DataW.trod enc P w 0 (fun _ => true) true n t [v] = some y) : ∃ x, v = .bool x := by
  obtain ⟨x, hx, _⟩ := DataW.trod_bool hu h
  simp only [List.cons.injEq, and_true] at hx
  exact ⟨x, hx⟩
end
end Go.Proofs.Ytdgpnmbmnnmdcaa.Open
