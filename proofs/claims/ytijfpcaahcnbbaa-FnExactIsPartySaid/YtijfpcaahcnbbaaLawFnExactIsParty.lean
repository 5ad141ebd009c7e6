/- The row of the law FnExactIsParty, out of its plain statement (Pure) and the printed contract of its Go function. Written by genrow.py. -/
import Derived.Test.YtijfpcaahcnbbaaRows
import Derived.Test.YtijfpcaahcnbbaaPFnExactIsPartyx8
import Derived.Test.YtijfpcaahcnbbaaPureFnExactIsParty
import Derived.Test.YtijfpcaahcnbbaaOpen
import Derived.WalkKit
import Derived.ProofKit
import Derived.OpenShut
import Derived.ShutString
import Derived.ChangeOld
import Derived.Below
import Derived.SizedLaws
import Derived.Lib.SmallJoins
namespace Go.Proofs.Ytijfpcaahcnbbaa.fnExactIsParty
open Go.ChangeShapes Go.WideShapes Go.ChangeAt Go.RowKit Go.Joins
open Go.Proofs.YtijfpcaahcnbbaaW.PrintWords Go.Proofs.YtijfpcaahcnbbaaW.PrintLast Go.Proofs.YtijfpcaahcnbbaaW.PrintMore Go.Proofs.Ytijfpcaahcnbbaa.Pure
set_option linter.unusedVariables false
theorem own : ownKnob Try.prog.godebug = none := by kernel_rfl
theorem laidOut : laidOutB Try.prog = true := by kernel_rfl
set_option maxRecDepth 100000 in
theorem lifted (os : Os) (started : os.Started) (H : Type) (enc : TypeId × Value → H) :
    ReturnsInHanded {} Try.checked os 5 .any (Rows.fnExactIsPartySpec.pre6 enc Try.prog Try.f5 Rows.fnExactIsPartyRow.domain false) (Rows.fnExactIsPartySpec.post enc Try.prog Try.f5 false true false false) := by
  refine returnsInHanded_of_change_sized (C := Try.checked) own started (by kernel_rfl) Try.func5
    (ChangeSpec.witness6 (enc := enc) (C := Try.checked) false ⟨#[], #[.agg #[.int .i64 0, .int .i64 0, .slice none 0 0], .agg #[.int .i64 0, .int .i64 0, .slice none 0 0, .slice none 0 0]], []⟩ 8 (by kernel_rfl) (by kernel_rfl) (by kernel_rfl) (by kernel_rfl)) ?_
  intro W base args ds gs before hval0 hW hcnd hsz0 _
  have hval : ∀ (j : Nat) t v, Try.f5.params[j]? = some t → args[j]? = some v → Value.okWide Try.prog W .any base t v := hval0
  have hW' := hW
  obtain ⟨p, q, hA0, hV, rfl, hfz, hnd⟩ := hW
  have hA : DataW.TrodAll enc Try.prog W 0 (fun _ => true) true Try.f5.params.toList args.toList ds p := hA0
  rw [Try.params5] at hA hval
  obtain ⟨v0, vs0, d0, ds0, p0, q0, hargs, rfl, rfl, h0, r0⟩ := trodAll_cons hA
  obtain ⟨v1, vs1, d1, ds1, p1, q1, rfl, rfl, rfl, h1, r1⟩ := trodAll_cons r0
  obtain ⟨rfl, rfl, rfl⟩ := trodAll_nil r1
  obtain rfl : args = #[v0, v1] := by cases args; simp_all
  obtain ⟨rfl, rfl⟩ := trodVars_none hV
  have lt0 : ∀ x ∈ p0, x.block < W.heap.size := by obtain ⟨m, hm⟩ := h0; exact DataW.trod_lt m _ _ _ hm
  have k0 := h0
  obtain ⟨u0_0, u0_1, u0_2, y0_0, y0_1, y0_2, m0, rfl, _, _, g0_0, g0_1, g0_2⟩ := open_agg3 Try.underlying38 (by kernel_rfl) (by kernel_rfl) (hval 0 38 v0 rfl rfl) h0
  obtain ⟨a0_0, rfl, w0_0⟩ := Open.field_int Try.underlying3 g0_0
  obtain ⟨a0_1, rfl, w0_1⟩ := Open.field_int Try.underlying3 g0_1
  obtain ⟨A0_2, c0_2, l0_2, rfl, hr0_2, hc0_2, hm0_2, ho0_2⟩ := Open.open_row Try.underlying36 (by kernel_rfl) (Open.opens_int Try.underlying3) g0_2
  have lt1 : ∀ x ∈ p1, x.block < W.heap.size := by obtain ⟨m, hm⟩ := h1; exact DataW.trod_lt m _ _ _ hm
  have k1 := h1
  obtain ⟨u1_0, u1_1, u1_2, u1_3, y1_0, y1_1, y1_2, y1_3, m1, rfl, _, _, g1_0, g1_1, g1_2, g1_3⟩ := open_agg4 Try.underlying41 (by kernel_rfl) (by kernel_rfl) (hval 1 41 v1 rfl rfl) h1
  obtain ⟨a1_0, rfl, w1_0⟩ := Open.field_int Try.underlying3 g1_0
  obtain ⟨a1_1, rfl, w1_1⟩ := Open.field_int Try.underlying3 g1_1
  obtain ⟨A1_2, c1_2, l1_2, rfl, hr1_2, hc1_2, hm1_2, ho1_2⟩ := Open.open_row Try.underlying22 (by kernel_rfl) (show Open.Opens enc Try.prog W PFnExactIsParty.k84 84 okS84 from Open.opens_iso (fun x : PFnExactIsParty.S84 => (x.f0, x.f1, x.f2, x.f3)) (fun x => ⟨x.1, x.2.1, x.2.2.1, x.2.2.2⟩) (fun _ => rfl) (Open.opens_pair4 Try.underlying84 (by kernel_rfl) (by kernel_rfl) (Open.opens_int Try.underlying3) (Open.opens_int Try.underlying3) (Open.opens_int Try.underlying3) (Open.opens_bool Try.underlying4))) g1_2
  obtain ⟨A1_3, c1_3, l1_3, rfl, hr1_3, hc1_3, hm1_3, ho1_3⟩ := Open.open_row Try.underlying39 (by kernel_rfl) (Open.opens_bool Try.underlying4) g1_3
  obtain ⟨k, h⟩ := Pure.FnExactIsParty a0_0 a0_1 l0_2 a1_0 a1_1 l1_2 l1_3 w0_0 w0_1 hm0_2 ho0_2 w1_0 w1_1 hm1_2 ho1_2 hm1_3 ho1_3
  clear hA0 hval0 hsz0
  refine (PFnExactIsParty.laws_FnExactIsParty.calls k a0_0 a0_1 A0_2 c0_2 l0_2 a1_0 a1_1 A1_2 c1_2 l1_2 A1_3 c1_3 l1_3 true W hr0_2 hc0_2 hr1_2 hc1_2 hr1_3 hc1_3 h).mono fun e W' ⟨he, bel0⟩ => ?_
  have bel : Below W.heap.size W W' := bel0
  subst he
  exact ⟨_, rfl, _, _, _, [], _, [], hW', trodAll_mk1 (shut_bool Try.underlying4 _), (trodAll_cons_mk (Below.trod laidOut (by kernel_rfl) (of_decide_eq_true (by kernel_rfl)) k0 bel lt0) (trodAll_cons_mk (Below.trod laidOut (by kernel_rfl) (of_decide_eq_true (by kernel_rfl)) k1 bel lt1) trodAll_mk0)), rfl, bel.frame _, fun h => by cases h⟩
theorem over : Rows.fnExactIsPartyRow.holds Try.pinned (OpenSpec.ofChange Rows.fnExactIsPartySpec) :=
  OpenClaim.holds_of_wide 5 Try.f5 rfl rfl rfl rfl rfl rfl rfl ⟨rfl, rfl, rfl, rfl, rfl⟩ rfl rfl rfl rfl rfl (by kernel_rfl) Try.func5 (by kernel_rfl)
    (of_decide_eq_true (by kernel_rfl)) (by unfold Func.isWrapper; first | (rw [if_pos (by decide +kernel)]; kernel_rfl) | (rw [if_neg (by decide +kernel)]; exact ⟨rfl, rfl⟩))
    (fun os started H enc _ => lifted os started H enc)
theorem proved : Rows.FnExactIsPartySaid := over
#print axioms proved
end Go.Proofs.Ytijfpcaahcnbbaa.fnExactIsParty
namespace Go.Proofs.Ytijfpcaahcnbbaa
/-- The row, under a short name, for the claim. -/
theorem fnExactIsParty_holds : Rows.FnExactIsPartySaid := fnExactIsParty.proved
end Go.Proofs.Ytijfpcaahcnbbaa
