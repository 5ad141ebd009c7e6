/- The row of the law FnExactNeedHome, out of its plain statement (Pure) and the printed contract of its Go function. Written by genrow.py. -/
import Derived.Test.YtdgpnmbmnnmdcabRows
import Derived.Test.YtdgpnmbmnnmdcabPFnExactNeedHomex14
import Derived.Test.YtdgpnmbmnnmdcabPureFnExactNeedHome
import Derived.Test.YtdgpnmbmnnmdcabOpen
import Derived.WalkKit
import Derived.ProofKit
import Derived.OpenShut
import Derived.ShutString
import Derived.ChangeOld
import Derived.Below
import Derived.SizedLaws
import Derived.Lib.SmallJoins
namespace Go.Proofs.Ytdgpnmbmnnmdcab.fnExactNeedHome
open Go.ChangeShapes Go.WideShapes Go.ChangeAt Go.RowKit Go.Joins
open Go.Proofs.YtdgpnmbmnnmdcabW.PrintWords Go.Proofs.YtdgpnmbmnnmdcabW.PrintLast Go.Proofs.YtdgpnmbmnnmdcabW.PrintMore Go.Proofs.Ytdgpnmbmnnmdcab.Pure
set_option linter.unusedVariables false
theorem own : ownKnob Try.prog.godebug = none := by kernel_rfl
theorem laidOut : laidOutB Try.prog = true := by kernel_rfl
set_option maxRecDepth 100000 in
theorem lifted (os : Os) (started : os.Started) (H : Type) (enc : TypeId × Value → H) :
    ReturnsInHanded {} Try.checked os 6 .any (Rows.fnExactNeedHomeSpec.pre6 enc Try.prog Try.f6 Rows.fnExactNeedHomeRow.domain false) (Rows.fnExactNeedHomeSpec.post enc Try.prog Try.f6 false true false false) := by
  refine returnsInHanded_of_change_sized (C := Try.checked) own started (by kernel_rfl) Try.func6
    (ChangeSpec.witness6 (enc := enc) (C := Try.checked) false ⟨#[], #[.agg #[.int .i64 0, .int .i64 0, .slice none 0 0], .int .i64 0, .agg #[.int .i64 0, .int .i64 0], .agg #[.int .i64 0, .int .i64 0, .slice none 0 0, .slice none 0 0]], []⟩ 8 (by kernel_rfl) (by kernel_rfl) (by kernel_rfl) (by kernel_rfl)) ?_
  intro W base args ds gs before hval0 hW hcnd hsz0 _
  have hval : ∀ (j : Nat) t v, Try.f6.params[j]? = some t → args[j]? = some v → Value.okWide Try.prog W .any base t v := hval0
  have hW' := hW
  obtain ⟨p, q, hA0, hV, rfl, hfz, hnd⟩ := hW
  have hA : DataW.TrodAll enc Try.prog W 0 (fun _ => true) true Try.f6.params.toList args.toList ds p := hA0
  rw [Try.params6] at hA hval
  obtain ⟨v0, vs0, d0, ds0, p0, q0, hargs, rfl, rfl, h0, r0⟩ := trodAll_cons hA
  obtain ⟨v1, vs1, d1, ds1, p1, q1, rfl, rfl, rfl, h1, r1⟩ := trodAll_cons r0
  obtain ⟨v2, vs2, d2, ds2, p2, q2, rfl, rfl, rfl, h2, r2⟩ := trodAll_cons r1
  obtain ⟨v3, vs3, d3, ds3, p3, q3, rfl, rfl, rfl, h3, r3⟩ := trodAll_cons r2
  obtain ⟨rfl, rfl, rfl⟩ := trodAll_nil r3
  obtain rfl : args = #[v0, v1, v2, v3] := by cases args; simp_all
  obtain ⟨rfl, rfl⟩ := trodVars_none hV
  have lt0 : ∀ x ∈ p0, x.block < W.heap.size := by obtain ⟨m, hm⟩ := h0; exact DataW.trod_lt m _ _ _ hm
  have k0 := h0
  obtain ⟨u0_0, u0_1, u0_2, y0_0, y0_1, y0_2, m0, rfl, _, _, g0_0, g0_1, g0_2⟩ := open_agg3 Try.underlying24 (by kernel_rfl) (by kernel_rfl) (hval 0 24 v0 rfl rfl) h0
  obtain ⟨a0_0, rfl, w0_0⟩ := Open.field_int Try.underlying3 g0_0
  obtain ⟨a0_1, rfl, w0_1⟩ := Open.field_int Try.underlying3 g0_1
  obtain ⟨A0_2, c0_2, l0_2, rfl, hr0_2, hc0_2, hm0_2, ho0_2⟩ := Open.open_row Try.underlying22 (by kernel_rfl) (Open.opens_int Try.underlying3) g0_2
  obtain ⟨a1, rfl, rfl, rfl, w1⟩ := open_int Try.underlying3 (hval 1 3 v1 rfl rfl) h1
  have lt2 : ∀ x ∈ p2, x.block < W.heap.size := by obtain ⟨m, hm⟩ := h2; exact DataW.trod_lt m _ _ _ hm
  have k2 := h2
  obtain ⟨u2_0, u2_1, y2_0, y2_1, m2, rfl, _, _, g2_0, g2_1⟩ := open_agg2 Try.underlying48 (by kernel_rfl) (by kernel_rfl) (hval 2 48 v2 rfl rfl) h2
  obtain ⟨a2_0, rfl, w2_0⟩ := Open.field_int Try.underlying3 g2_0
  obtain ⟨a2_1, rfl, w2_1⟩ := Open.field_int Try.underlying3 g2_1
  have lt3 : ∀ x ∈ p3, x.block < W.heap.size := by obtain ⟨m, hm⟩ := h3; exact DataW.trod_lt m _ _ _ hm
  have k3 := h3
  obtain ⟨u3_0, u3_1, u3_2, u3_3, y3_0, y3_1, y3_2, y3_3, m3, rfl, _, _, g3_0, g3_1, g3_2, g3_3⟩ := open_agg4 Try.underlying52 (by kernel_rfl) (by kernel_rfl) (hval 3 52 v3 rfl rfl) h3
  obtain ⟨a3_0, rfl, w3_0⟩ := Open.field_int Try.underlying3 g3_0
  obtain ⟨a3_1, rfl, w3_1⟩ := Open.field_int Try.underlying3 g3_1
  obtain ⟨A3_2, c3_2, l3_2, rfl, hr3_2, hc3_2, hm3_2, ho3_2⟩ := Open.open_row Try.underlying49 (by kernel_rfl) (show Open.Opens enc Try.prog W PFnExactNeedHome.k97 97 okS97 from Open.opens_iso (fun x : PFnExactNeedHome.S97 => (x.f0, x.f1, x.f2, x.f3)) (fun x => ⟨x.1, x.2.1, x.2.2.1, x.2.2.2⟩) (fun _ => rfl) (Open.opens_pair4 Try.underlying97 (by kernel_rfl) (by kernel_rfl) (Open.opens_int Try.underlying3) (Open.opens_int Try.underlying3) (Open.opens_int Try.underlying3) (Open.opens_bool Try.underlying4))) g3_2
  obtain ⟨A3_3, c3_3, l3_3, rfl, hr3_3, hc3_3, hm3_3, ho3_3⟩ := Open.open_row Try.underlying50 (by kernel_rfl) (Open.opens_bool Try.underlying4) g3_3
  obtain ⟨k, h⟩ := Pure.FnExactNeedHome a0_0 a0_1 l0_2 a1 a2_0 a2_1 a3_0 a3_1 l3_2 l3_3 w0_0 w0_1 hm0_2 ho0_2 w1 w2_0 w2_1 w3_0 w3_1 hm3_2 ho3_2 hm3_3 ho3_3
  clear hA0 hval0 hsz0
  refine (PFnExactNeedHome.laws_FnExactNeedHome.calls k a0_0 a0_1 A0_2 c0_2 l0_2 a1 a2_0 a2_1 a3_0 a3_1 A3_2 c3_2 l3_2 A3_3 c3_3 l3_3 true W hr0_2 hc0_2 hr3_2 hc3_2 hr3_3 hc3_3 h).mono fun e W' ⟨he, bel0⟩ => ?_
  have bel : Below W.heap.size W W' := bel0
  subst he
  exact ⟨_, rfl, _, _, _, [], _, [], hW', trodAll_mk1 (shut_bool Try.underlying4 _), (trodAll_cons_mk (Below.trod laidOut (by kernel_rfl) (of_decide_eq_true (by kernel_rfl)) k0 bel lt0) (trodAll_cons_mk (shut_int Try.underlying3 w1) (trodAll_cons_mk (Below.trod laidOut (by kernel_rfl) (of_decide_eq_true (by kernel_rfl)) k2 bel lt2) (trodAll_cons_mk (Below.trod laidOut (by kernel_rfl) (of_decide_eq_true (by kernel_rfl)) k3 bel lt3) trodAll_mk0)))), rfl, bel.frame _, fun h => by cases h⟩
theorem over : Rows.fnExactNeedHomeRow.holds Try.pinned (OpenSpec.ofChange Rows.fnExactNeedHomeSpec) :=
  OpenClaim.holds_of_wide 6 Try.f6 rfl rfl rfl rfl rfl rfl rfl ⟨rfl, rfl, rfl, rfl, rfl⟩ rfl rfl rfl rfl rfl (by kernel_rfl) Try.func6 (by kernel_rfl)
    (of_decide_eq_true (by kernel_rfl)) (by unfold Func.isWrapper; first | (rw [if_pos (by decide +kernel)]; kernel_rfl) | (rw [if_neg (by decide +kernel)]; exact ⟨rfl, rfl⟩))
    (fun os started H enc _ => lifted os started H enc)
theorem proved : Rows.FnExactNeedHomeSaid := over
#print axioms proved
end Go.Proofs.Ytdgpnmbmnnmdcab.fnExactNeedHome
namespace Go.Proofs.Ytdgpnmbmnnmdcab
/-- The row, under a short name, for the claim. -/
theorem fnExactNeedHome_holds : Rows.FnExactNeedHomeSaid := fnExactNeedHome.proved
end Go.Proofs.Ytdgpnmbmnnmdcab
