/- The row of the law FnExactPlacesAfter, out of its plain statement (Pure) and the printed contract of its Go function. Written by genrow.py. -/
import Derived.Test.YtdgpnmbmnnmdcabRows
import Derived.Test.YtdgpnmbmnnmdcabPFnExactPlacesAfterx13
import Derived.Test.YtdgpnmbmnnmdcabPureFnExactPlacesAfter
import Derived.Test.YtdgpnmbmnnmdcabOpen
import Derived.WalkKit
import Derived.ProofKit
import Derived.OpenShut
import Derived.ShutString
import Derived.ChangeOld
import Derived.Below
import Derived.SizedLaws
import Derived.Lib.SmallJoins
namespace Go.Proofs.Ytdgpnmbmnnmdcab.fnExactPlacesAfter
open Go.ChangeShapes Go.WideShapes Go.ChangeAt Go.RowKit Go.Joins
open Go.Proofs.YtdgpnmbmnnmdcabW.PrintWords Go.Proofs.YtdgpnmbmnnmdcabW.PrintLast Go.Proofs.YtdgpnmbmnnmdcabW.PrintMore Go.Proofs.Ytdgpnmbmnnmdcab.Pure
set_option linter.unusedVariables false
theorem own : ownKnob Try.prog.godebug = none := by kernel_rfl
theorem laidOut : laidOutB Try.prog = true := by kernel_rfl
set_option maxRecDepth 100000 in
theorem lifted (os : Os) (started : os.Started) (H : Type) (enc : TypeId × Value → H) :
    ReturnsInHanded {} Try.checked os 4 .any (Rows.fnExactPlacesAfterSpec.pre6 enc Try.prog Try.f4 Rows.fnExactPlacesAfterRow.domain false) (Rows.fnExactPlacesAfterSpec.post enc Try.prog Try.f4 false true false false) := by
  refine returnsInHanded_of_change_sized (C := Try.checked) own started (by kernel_rfl) Try.func4
    (ChangeSpec.witness6 (enc := enc) (C := Try.checked) false ⟨#[], #[.agg #[.int .i64 0, .int .i64 0, .slice none 0 0], .slice none 0 0, .int .i64 0, .slice none 0 0, .slice none 0 0], []⟩ 8 (by kernel_rfl) (by kernel_rfl) (by kernel_rfl) (by kernel_rfl)) ?_
  intro W base args ds gs before hval0 hW hcnd hsz0 _
  have hval : ∀ (j : Nat) t v, Try.f4.params[j]? = some t → args[j]? = some v → Value.okWide Try.prog W .any base t v := hval0
  have hW' := hW
  obtain ⟨p, q, hA0, hV, rfl, hfz, hnd⟩ := hW
  have hA : DataW.TrodAll enc Try.prog W 0 (fun _ => true) true Try.f4.params.toList args.toList ds p := hA0
  rw [Try.params4] at hA hval
  obtain ⟨v0, vs0, d0, ds0, p0, q0, hargs, rfl, rfl, h0, r0⟩ := trodAll_cons hA
  obtain ⟨v1, vs1, d1, ds1, p1, q1, rfl, rfl, rfl, h1, r1⟩ := trodAll_cons r0
  obtain ⟨v2, vs2, d2, ds2, p2, q2, rfl, rfl, rfl, h2, r2⟩ := trodAll_cons r1
  obtain ⟨v3, vs3, d3, ds3, p3, q3, rfl, rfl, rfl, h3, r3⟩ := trodAll_cons r2
  obtain ⟨v4, vs4, d4, ds4, p4, q4, rfl, rfl, rfl, h4, r4⟩ := trodAll_cons r3
  obtain ⟨rfl, rfl, rfl⟩ := trodAll_nil r4
  obtain rfl : args = #[v0, v1, v2, v3, v4] := by cases args; simp_all
  obtain ⟨rfl, rfl⟩ := trodVars_none hV
  have lt0 : ∀ x ∈ p0, x.block < W.heap.size := by obtain ⟨m, hm⟩ := h0; exact DataW.trod_lt m _ _ _ hm
  have k0 := h0
  obtain ⟨u0_0, u0_1, u0_2, y0_0, y0_1, y0_2, m0, rfl, _, _, g0_0, g0_1, g0_2⟩ := open_agg3 Try.underlying24 (by kernel_rfl) (by kernel_rfl) (hval 0 24 v0 rfl rfl) h0
  obtain ⟨a0_0, rfl, w0_0⟩ := Open.field_int Try.underlying3 g0_0
  obtain ⟨a0_1, rfl, w0_1⟩ := Open.field_int Try.underlying3 g0_1
  obtain ⟨A0_2, c0_2, l0_2, rfl, hr0_2, hc0_2, hm0_2, ho0_2⟩ := Open.open_row Try.underlying22 (by kernel_rfl) (Open.opens_int Try.underlying3) g0_2
  have lt1 : ∀ x ∈ p1, x.block < W.heap.size := by obtain ⟨m, hm⟩ := h1; exact DataW.trod_lt m _ _ _ hm
  obtain ⟨b1, len1, cap1, rfl⟩ := okWide_slice Try.underlying22 (hval 1 22 v1 rfl rfl)
  have k1 := h1
  obtain ⟨fuel1, hf1⟩ := h1
  have hg1 : DataW.trod enc Try.prog W 0 (fun _ => true) true fuel1 22 [.slice b1 len1 cap1] = some (d1, p1) := hf1
  obtain ⟨A1, c1, l1, hv1, hr1, hc1, hm1, ho1⟩ := Open.open_row Try.underlying22 (by kernel_rfl) (Open.opens_int Try.underlying3) hg1
  obtain ⟨rfl, rfl, rfl⟩ : b1 = A1 ∧ len1 = l1.length ∧ cap1 = c1 := by simpa using hv1
  obtain ⟨a2, rfl, rfl, rfl, w2⟩ := open_int Try.underlying3 (hval 2 3 v2 rfl rfl) h2
  have lt3 : ∀ x ∈ p3, x.block < W.heap.size := by obtain ⟨m, hm⟩ := h3; exact DataW.trod_lt m _ _ _ hm
  obtain ⟨b3, len3, cap3, rfl⟩ := okWide_slice Try.underlying22 (hval 3 22 v3 rfl rfl)
  have k3 := h3
  obtain ⟨fuel3, hf3⟩ := h3
  have hg3 : DataW.trod enc Try.prog W 0 (fun _ => true) true fuel3 22 [.slice b3 len3 cap3] = some (d3, p3) := hf3
  obtain ⟨A3, c3, l3, hv3, hr3, hc3, hm3, ho3⟩ := Open.open_row Try.underlying22 (by kernel_rfl) (Open.opens_int Try.underlying3) hg3
  obtain ⟨rfl, rfl, rfl⟩ : b3 = A3 ∧ len3 = l3.length ∧ cap3 = c3 := by simpa using hv3
  have lt4 : ∀ x ∈ p4, x.block < W.heap.size := by obtain ⟨m, hm⟩ := h4; exact DataW.trod_lt m _ _ _ hm
  obtain ⟨b4, len4, cap4, rfl⟩ := okWide_slice Try.underlying22 (hval 4 22 v4 rfl rfl)
  have k4 := h4
  obtain ⟨fuel4, hf4⟩ := h4
  have hg4 : DataW.trod enc Try.prog W 0 (fun _ => true) true fuel4 22 [.slice b4 len4 cap4] = some (d4, p4) := hf4
  obtain ⟨A4, c4, l4, hv4, hr4, hc4, hm4, ho4⟩ := Open.open_row Try.underlying22 (by kernel_rfl) (Open.opens_int Try.underlying3) hg4
  obtain ⟨rfl, rfl, rfl⟩ : b4 = A4 ∧ len4 = l4.length ∧ cap4 = c4 := by simpa using hv4
  obtain ⟨k, h⟩ := Pure.FnExactPlacesAfter a0_0 a0_1 l0_2 l1 a2 l3 l4 w0_0 w0_1 hm0_2 ho0_2 hm1 ho1 w2 hm3 ho3 hm4 ho4
  clear hA0 hval0 hsz0
  refine (PFnExactPlacesAfter.laws_FnExactPlacesAfter.calls k a0_0 a0_1 A0_2 c0_2 l0_2 b1 cap1 l1 a2 b3 cap3 l3 b4 cap4 l4 true W hr0_2 hc0_2 hr1 hc1 hr3 hc3 hr4 hc4 h).mono fun e W' ⟨he, bel0⟩ => ?_
  have bel : Below W.heap.size W W' := bel0
  subst he
  exact ⟨_, rfl, _, _, _, [], _, [], hW', trodAll_mk1 (shut_bool Try.underlying4 _), (trodAll_cons_mk (Below.trod laidOut (by kernel_rfl) (of_decide_eq_true (by kernel_rfl)) k0 bel lt0) (trodAll_cons_mk (Below.trod laidOut (by kernel_rfl) (of_decide_eq_true (by kernel_rfl)) k1 bel lt1) (trodAll_cons_mk (shut_int Try.underlying3 w2) (trodAll_cons_mk (Below.trod laidOut (by kernel_rfl) (of_decide_eq_true (by kernel_rfl)) k3 bel lt3) (trodAll_cons_mk (Below.trod laidOut (by kernel_rfl) (of_decide_eq_true (by kernel_rfl)) k4 bel lt4) trodAll_mk0))))), rfl, bel.frame _, fun h => by cases h⟩
theorem over : Rows.fnExactPlacesAfterRow.holds Try.pinned (OpenSpec.ofChange Rows.fnExactPlacesAfterSpec) :=
  OpenClaim.holds_of_wide 4 Try.f4 rfl rfl rfl rfl rfl rfl rfl ⟨rfl, rfl, rfl, rfl, rfl⟩ rfl rfl rfl rfl rfl (by kernel_rfl) Try.func4 (by kernel_rfl)
    (of_decide_eq_true (by kernel_rfl)) (by unfold Func.isWrapper; first | (rw [if_pos (by decide +kernel)]; kernel_rfl) | (rw [if_neg (by decide +kernel)]; exact ⟨rfl, rfl⟩))
    (fun os started H enc _ => lifted os started H enc)
theorem proved : Rows.FnExactPlacesAfterSaid := over
#print axioms proved
end Go.Proofs.Ytdgpnmbmnnmdcab.fnExactPlacesAfter
namespace Go.Proofs.Ytdgpnmbmnnmdcab
/-- The row, under a short name, for the claim. -/
theorem fnExactPlacesAfter_holds : Rows.FnExactPlacesAfterSaid := fnExactPlacesAfter.proved
end Go.Proofs.Ytdgpnmbmnnmdcab
