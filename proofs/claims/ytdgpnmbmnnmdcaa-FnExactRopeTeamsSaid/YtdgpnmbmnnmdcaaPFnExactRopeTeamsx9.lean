/- Contracts of Go functions: what print.sh prints, written shorter by short.py. -/
import Derived.Test.YtdgpnmbmnnmdcaaUp
import Derived.Test.YtdgpnmbmnnmdcaaPFnExactRopeTeamsx0
import Derived.Test.YtdgpnmbmnnmdcaaPFnExactRopeTeamsx1
import Derived.Test.YtdgpnmbmnnmdcaaPFnExactRopeTeamsx3
import Derived.Test.YtdgpnmbmnnmdcaaPFnExactRopeTeamsx6
import Derived.Test.YtdgpnmbmnnmdcaaPFnExactRopeTeamsx7
import Derived.Test.YtdgpnmbmnnmdcaaPFnExactRopeTeamsx8
namespace Go.Proofs.Ytdgpnmbmnnmdcaa.PFnExactRopeTeams
open Go.RowKit Go.Proofs.YtdgpnmbmnnmdcaaW.PrintWords Go.Proofs.YtdgpnmbmnnmdcaaW.PrintLast Go.Proofs.YtdgpnmbmnnmdcaaW.PrintMore
attribute [local go_sem] max2_int min2_int max_two min_two max_three min_three max_four min_four   -- for this text's walks alone
set_option linter.unusedVariables false
set_option linter.unusedSimpArgs false

/-! ### laws_FnExactRopeTeams: function 3 -/
def laws_FnExactRopeTeams.j0 : Nat → List (S70) → List (List Int) → List (List Int) → Bool → Option (Bool)
 | 0, _, _, _, _ => none
 | k + 1, x0, x4, x6, x42 => if x42 = true then (some false) else ((laws_markIntSS.f k x6 1).bind fun bt295 => ((laws_heldIntSS.f k bt295.2 1).bind fun t297 => (if t297 < 0 then (some false) else (if t297 = bt295.1 then ((laws_toMemberS.f k x0).bind fun t298 => ((impl_RopeTeams.f k t298).bind fun t301 => ((laws_eqIntSS.f k t301 x4).bind fun t304 => (if t304 = true then ((laws_heldIntSS.f k bt295.2 1).bind fun t305 => (if t305 < 0 then (some false) else (if t305 = bt295.1 then (some true) else (some false)))) else (some false))))) else (some false)))))
def laws_FnExactRopeTeams.f (k : Nat) (l0 : List (S70)) : Option (Bool) := (laws_szMemberS.f l0 1048576).bind fun t274 => (if t274 < 0 then (some true) else ((laws_toMemberS.f k l0).bind fun t275 => ((spec_RopeTeams.f k t275).bind fun t278 => ((laws_toMemberS.f k l0).bind fun t281 => ((impl_RopeTeams.f k t281).bind fun t284 => ((laws_eqIntSS.f k t284 t278).bind fun t287 => (if t287 = true then ((laws_toMemberS.f k l0).bind fun t288 => ((laws_eqMemberS.f k t281 t288).bind fun t291 => (if t291 = true then ((laws_markMemberS.f k t281 1).bind fun bt292 => (if bt292.1 < 0 then (laws_FnExactRopeTeams.j0 k l0 t278 t284 true) else ((laws_eqIntSS.f k t284 t278).bind fun t294 => (laws_FnExactRopeTeams.j0 k l0 t278 t284 (!t294))))) else (some false)))) else (some false))))))))
theorem laws_FnExactRopeTeams.mono_l : ∀ k, (∀ y0 y1 y2 y3, LeO (laws_FnExactRopeTeams.j0 k y0 y1 y2 y3) (laws_FnExactRopeTeams.j0 (k + 1) y0 y1 y2 y3))
 | 0 => fun _ _ _ _ r h => by simp [laws_FnExactRopeTeams.j0] at h
 | k + 1 => by
  have ih0 := laws_FnExactRopeTeams.mono_l k
  · intro y0 y1 y2 y3
    unfold laws_FnExactRopeTeams.j0
    repeat' first
    | (with_reducible exact ih0 _ _ _ _)
    | (with_reducible exact impl_RopeTeams.mono _ _)
    | (with_reducible exact laws_eqIntSS.mono _ _ _)
    | (with_reducible exact laws_eqMemberS.mono _ _ _)
    | (with_reducible exact laws_heldIntSS.mono _ _ _)
    | (with_reducible exact laws_markIntSS.mono _ _ _)
    | (with_reducible exact laws_markMemberS.mono _ _ _)
    | (with_reducible exact laws_toMemberS.mono _ _)
    | (with_reducible exact spec_RopeTeams.mono _ _)
    | (with_reducible exact LeO.refl _)
    | (with_reducible exact LeO.none _)
    | (with_reducible refine LeO.ite ?_ ?_)
    | (with_reducible refine LeO.bind ?_ (fun _ => ?_))
    | exact ih0 _ _ _ _
    | exact impl_RopeTeams.mono _ _
    | exact laws_eqIntSS.mono _ _ _
    | exact laws_eqMemberS.mono _ _ _
    | exact laws_heldIntSS.mono _ _ _
    | exact laws_markIntSS.mono _ _ _
    | exact laws_markMemberS.mono _ _ _
    | exact laws_toMemberS.mono _ _
    | exact spec_RopeTeams.mono _ _
    | exact LeO.none _
    | refine LeO.ite ?_ ?_
    | refine LeO.bind ?_ (fun _ => ?_)
theorem laws_FnExactRopeTeams.mono : ∀ a0 k, LeO (laws_FnExactRopeTeams.f k a0) (laws_FnExactRopeTeams.f (k + 1) a0) := by
 intro a0 k
 have ih0 := laws_FnExactRopeTeams.mono_l k
 unfold laws_FnExactRopeTeams.f
 repeat' first
  | (with_reducible exact ih0 _ _ _ _)
  | (with_reducible exact impl_RopeTeams.mono _ _)
  | (with_reducible exact laws_eqIntSS.mono _ _ _)
  | (with_reducible exact laws_eqMemberS.mono _ _ _)
  | (with_reducible exact laws_heldIntSS.mono _ _ _)
  | (with_reducible exact laws_markIntSS.mono _ _ _)
  | (with_reducible exact laws_markMemberS.mono _ _ _)
  | (with_reducible exact laws_toMemberS.mono _ _)
  | (with_reducible exact spec_RopeTeams.mono _ _)
  | (with_reducible exact LeO.refl _)
  | (with_reducible exact LeO.none _)
  | (with_reducible refine LeO.ite ?_ ?_)
  | (with_reducible refine LeO.bind ?_ (fun _ => ?_))
  | exact ih0 _ _ _ _
  | exact impl_RopeTeams.mono _ _
  | exact laws_eqIntSS.mono _ _ _
  | exact laws_eqMemberS.mono _ _ _
  | exact laws_heldIntSS.mono _ _ _
  | exact laws_markIntSS.mono _ _ _
  | exact laws_markMemberS.mono _ _ _
  | exact laws_toMemberS.mono _ _
  | exact spec_RopeTeams.mono _ _
  | exact LeO.none _
  | refine LeO.ite ?_ ?_
  | refine LeO.bind ?_ (fun _ => ?_)
set_option maxHeartbeats 8000000 in
set_option maxRecDepth 100000 in
theorem laws_FnExactRopeTeams.calls (k : Nat) (A0 : Option Addr) (c0 : Nat) (l0 : List (S70)) (_ : Bool) (w : World) (hr0 : Kd.C k70 w A0 l0.length l0) (hc0 : l0.length ≤ c0) (h : laws_FnExactRopeTeams.f k l0 = some true) :
 Calls Try.prog 3 #[.slice A0 l0.length c0] w fun e w' => e = .returned (.bool true) ∧ Below w.heap.size w w' := by
 have HR0 := Aside0.mk hr0
 have HC0 := Aside0.mk hc0
 clear hr0 hc0
 have HB := Aside0.mk (Below.refl w.heap.size w)
 have H : ((laws_szMemberS.f l0 1048576).bind fun t274 => (if t274 < 0 then (some true) else ((laws_toMemberS.f k l0).bind fun t275 => ((spec_RopeTeams.f k t275).bind fun t278 => ((laws_toMemberS.f k l0).bind fun t281 => ((impl_RopeTeams.f k t281).bind fun t284 => ((laws_eqIntSS.f k t284 t278).bind fun t287 => (if t287 = true then ((laws_toMemberS.f k l0).bind fun t288 => ((laws_eqMemberS.f k t281 t288).bind fun t291 => (if t291 = true then ((laws_markMemberS.f k t281 1).bind fun bt292 => (if bt292.1 < 0 then (laws_FnExactRopeTeams.j0 k l0 t278 t284 true) else ((laws_eqIntSS.f k t284 t278).bind fun t294 => (laws_FnExactRopeTeams.j0 k l0 t278 t284 (!t294))))) else (some false)))) else (some false))))))))) = some true := h
 clear h
 replace H := Option.bind_eq_some_iff.mp H
 obtain ⟨t274, A20, H⟩ := H
 have A2 := Aside0.mk A20
 clear A20
 by_cases c3 : t274 < 0
 · rw [if_pos c3] at H
   have c3b0 : decide (t274 < 0) = true := decide_eq_true c3
   clear c3
   clear H
   go_enter Try.func3, Try.ntmps3
   go_wp2_with (first | ((with_reducible refine gate_callee (f := 7) rfl ?_); refine goesL_ (some 13) rfl rfl Try.func7 (by kernel_rfl) rfl #[.slice A0 l0.length c0, .int .i64 1048576] rfl (by (try simp only [List.map_toArray, List.map_cons, List.map_nil]); first | done | rfl | (simp only [List.length_drop, List.length_take]; rfl)) ?_; (with_reducible refine (laws_szMemberS.calls _ _ l0 1048576 t274 _ ?side1 ?side2 A2.out).mono ?_); (case side1 => exact Kd.C_up HR0.out); (case side2 => exact HC0.out); rintro e w' ⟨rfl, ⟨nd, rfl⟩⟩; refine ⟨_, rfl, ?_⟩))
   go_ret
   exact ⟨by first | rfl | (simp [errW_none, errW_some] <;> rfl) | (simp [*, errW_none, errW_some] <;> rfl), below_up HB.out⟩
 rw [if_neg c3] at H
 have c3b0 : decide (t274 < 0) = false := decide_eq_false c3
 clear c3
 replace H := Option.bind_eq_some_iff.mp H
 obtain ⟨t275, A40, H⟩ := H
 have A4 := Aside0.mk A40
 clear A40
 replace H := Option.bind_eq_some_iff.mp H
 obtain ⟨t278, A50, H⟩ := H
 have A5 := Aside0.mk A50
 clear A50
 replace H := Option.bind_eq_some_iff.mp H
 obtain ⟨t281, A60, H⟩ := H
 have A6 := Aside0.mk A60
 clear A60
 replace H := Option.bind_eq_some_iff.mp H
 obtain ⟨t284, A70, H⟩ := H
 have A7 := Aside0.mk A70
 clear A70
 replace H := Option.bind_eq_some_iff.mp H
 obtain ⟨t287, A80, H⟩ := H
 have A8 := Aside0.mk A80
 clear A80
 by_cases c9 : t287 = true
 rotate_left
 · replace c9 := Bool.eq_false_iff.mpr c9
   subst c9
   rw [if_neg (show ¬ (false = true) by decide)] at H
   exact absurd H (by simp)
 subst c9
 rw [if_pos rfl] at H
 replace H := Option.bind_eq_some_iff.mp H
 obtain ⟨t288, A100, H⟩ := H
 have A10 := Aside0.mk A100
 clear A100
 replace H := Option.bind_eq_some_iff.mp H
 obtain ⟨t291, A110, H⟩ := H
 have A11 := Aside0.mk A110
 clear A110
 by_cases c12 : t291 = true
 rotate_left
 · replace c12 := Bool.eq_false_iff.mpr c12
   subst c12
   rw [if_neg (show ¬ (false = true) by decide)] at H
   exact absurd H (by simp)
 subst c12
 rw [if_pos rfl] at H
 replace H := Option.bind_eq_some_iff.mp H
 obtain ⟨⟨t292, t293⟩, A130, H⟩ := H
 dsimp only at H
 have A13 := Aside0.mk A130
 clear A130
 have HC14 := Aside0.mk H
 clear H
 go_enter Try.func3, Try.ntmps3
 go_upto_region 14 with (first | ((with_reducible refine gate_callee (f := 7) rfl ?_); refine goesL_ (some 13) rfl rfl Try.func7 (by kernel_rfl) rfl #[.slice A0 l0.length c0, .int .i64 1048576] rfl (by (try simp only [List.map_toArray, List.map_cons, List.map_nil]); first | done | rfl | (simp only [List.length_drop, List.length_take]; rfl)) ?_; (with_reducible refine (laws_szMemberS.calls _ _ l0 1048576 t274 _ ?side1 ?side2 A2.out).mono ?_); (case side1 => exact Kd.C_up HR0.out); (case side2 => exact HC0.out); rintro e w' ⟨rfl, ⟨nd, rfl⟩⟩; refine ⟨_, rfl, ?_⟩) | ((with_reducible refine gate_callee (f := 9) rfl ?_); refine goesL_ (some 17) rfl rfl Try.func9 (by kernel_rfl) rfl #[.slice A0 l0.length c0] rfl (by (try simp only [List.map_toArray, List.map_cons, List.map_nil]); first | done | rfl | (simp only [List.length_drop, List.length_take]; rfl)) ?_; (with_reducible refine (laws_toMemberS.calls k _ _ l0 t275 _ ?side1 ?side2 A4.out).mono ?_); (case side1 => exact Kd.C_up HR0.out); (case side2 => exact HC0.out); rintro e w15 ⟨v276, rfl, ho0, hb⟩; refine ⟨_, rfl, ?_⟩; have n0_ := Aside0.mk (Kd.R_lower ho0 (below_size (below_up HB.out))); have n1_ := Aside0.mk (below_step (below_up HB.out) hb); clear HB; have HO277 := n0_; have HB := n1_; clear n0_ n1_; (try clear hb); (try clear hb2); (try clear hk); (try clear hi); (try clear ho0); obtain ⟨Ao16, co16, eo16⟩ := Kd.R_slice HO277.out; subst eo16) | ((with_reducible refine gate_callee (f := 8) rfl ?_); refine goesL_ (some 18) rfl rfl Try.func8 (by kernel_rfl) rfl #[.slice Ao16 t275.length co16] rfl (by (try simp only [List.map_toArray, List.map_cons, List.map_nil]); first | done | rfl | (simp only [List.length_drop, List.length_take]; rfl)) ?_; (with_reducible refine (spec_RopeTeams.calls k _ _ t275 t278 _ ?side1 ?side2 A5.out).mono ?_); (case side1 => exact Kd.C_up ((Kd.R_reads' HO277.out).2.2)); (case side2 => exact (Kd.R_reads' HO277.out).2.1); rintro e w17 ⟨v279, rfl, ho0, hb⟩; refine ⟨_, rfl, ?_⟩; have n0_ := Aside0.mk (Kd.R_below (Kd.R_up HO277.out) hb); have n1_ := Aside0.mk (Kd.S_lower ho0 (below_size (below_up HB.out))); have n2_ := Aside0.mk (below_step (below_up HB.out) hb); clear HO277; clear HB; have HO277 := n0_; have HO280 := n1_; have HB := n2_; clear n0_ n1_ n2_; (try clear hb); (try clear hb2); (try clear hk); (try clear hi); (try clear ho0)) | ((with_reducible refine gate_callee (f := 9) rfl ?_); refine goesL_ (some 20) rfl rfl Try.func9 (by kernel_rfl) rfl #[.slice A0 l0.length c0] rfl (by (try simp only [List.map_toArray, List.map_cons, List.map_nil]); first | done | rfl | (simp only [List.length_drop, List.length_take]; rfl)) ?_; (with_reducible refine (laws_toMemberS.calls k _ _ l0 t281 _ ?side1 ?side2 A6.out).mono ?_); (case side1 => exact (Kd.C_below HR0.out (below_up HB.out))); (case side2 => exact HC0.out); rintro e w18 ⟨v282, rfl, ho0, hb⟩; refine ⟨_, rfl, ?_⟩; have n0_ := Aside0.mk (Kd.R_elder' (Kd.R_up HO277.out) (Kd.R_base ho0) hb); have n1_ := Aside0.mk (Kd.S_below (Kd.S_up HO280.out) hb); have n2_ := Aside0.mk (Kd.R_lower (Kd.R_new' ho0 (Kd.R_lt (Kd.R_up HO277.out))) (below_size (below_up HB.out))); have n3_ := Aside0.mk (below_step (below_up HB.out) hb); clear HO277; clear HO280; clear HB; have HO277 := n0_; have HO280 := n1_; have HO283 := n2_; have HB := n3_; clear n0_ n1_ n2_ n3_; (try clear hb); (try clear hb2); (try clear hk); (try clear hi); (try clear ho0); obtain ⟨Ao19, co19, eo19⟩ := Kd.R_slice HO283.out; subst eo19) | ((with_reducible refine gate_callee (f := 10) rfl ?_); refine goesL_ (some 22) rfl rfl Try.func10 (by kernel_rfl) rfl #[.slice Ao19 t281.length co19] rfl (by (try simp only [List.map_toArray, List.map_cons, List.map_nil]); first | done | rfl | (simp only [List.length_drop, List.length_take]; rfl)) ?_; (with_reducible refine (impl_RopeTeams.calls k _ _ t281 t284 _ ?side1 ?side2 A7.out).mono ?_); (case side1 => exact Kd.C_up ((Kd.R_reads' HO283.out).2.2)); (case side2 => exact (Kd.R_reads' HO283.out).2.1); rintro e w20 ⟨v285, rfl, ho0, hb⟩; refine ⟨_, rfl, ?_⟩; have n0_ := Aside0.mk (Kd.R_below (Kd.R_up HO277.out) hb); obtain ⟨bb, hbb_, hu_, hv_⟩ := S_part (Kd.S_up HO280.out) ho0 hb (below_size (below_up HB.out)); have HBB := Aside0.mk hbb_; have n1_ := Aside0.mk hu_; have n2_ := Aside0.mk (Kd.R_below (Kd.R_up HO283.out) hb); have n3_ := Aside0.mk hv_; clear hbb_ hu_ hv_; have n4_ := Aside0.mk (below_step (below_up HB.out) hb); clear HO277; clear HO280; clear HO283; clear HB; have HO277 := n0_; have HO280 := n1_; have HO283 := n2_; have HO286 := n3_; have HB := n4_; clear n0_ n1_ n2_ n3_ n4_; (try clear hb); (try clear hb2); (try clear hk); (try clear hi); (try clear ho0); obtain ⟨Ao21, co21, eo21⟩ := Kd.S_slice HO286.out; subst eo21; obtain ⟨Ao22, co22, eo22⟩ := Kd.S_slice HO280.out; subst eo22) | ((with_reducible refine gate_callee (f := 11) rfl ?_); refine goesL_ (some 25) rfl rfl Try.func11 (by kernel_rfl) rfl #[.slice Ao21 t284.length co21, .slice Ao22 t278.length co22] rfl (by (try simp only [List.map_toArray, List.map_cons, List.map_nil]); first | done | rfl | (simp only [List.length_drop, List.length_take]; rfl)) ?_; (with_reducible refine (laws_eqIntSS.calls k _ _ t284 _ _ t278 true _ ?side1 ?side2 ?side3 ?side4 A8.out).mono ?_); (case side1 => exact Kd.C_up ((Kd.S_reads' HO286.out).2.2)); (case side2 => exact (Kd.S_reads' HO286.out).2.1); (case side3 => exact Kd.C_up ((Kd.S_reads' HO280.out).2.2)); (case side4 => exact (Kd.S_reads' HO280.out).2.1); rintro e w' ⟨rfl, ⟨nd, rfl⟩⟩; refine ⟨_, rfl, ?_⟩) | ((with_reducible refine gate_callee (f := 9) rfl ?_); refine goesL_ (some 29) rfl rfl Try.func9 (by kernel_rfl) rfl #[.slice A0 l0.length c0] rfl (by (try simp only [List.map_toArray, List.map_cons, List.map_nil]); first | done | rfl | (simp only [List.length_drop, List.length_take]; rfl)) ?_; (with_reducible refine (laws_toMemberS.calls k _ _ l0 t288 _ ?side1 ?side2 A10.out).mono ?_); (case side1 => exact (Kd.C_below HR0.out (below_up HB.out))); (case side2 => exact HC0.out); rintro e w23 ⟨v289, rfl, ho0, hb⟩; refine ⟨_, rfl, ?_⟩; have n0_ := Aside0.mk (Kd.R_elder' (Kd.R_up HO277.out) (Kd.R_base ho0) hb); have n1_ := Aside0.mk (Kd.S_below (Kd.S_up HO280.out) hb); have n2_ := Aside0.mk (Kd.R_elder' (Kd.R_up HO283.out) (Kd.R_base ho0) hb); have n3_ := Aside0.mk (Kd.S_below (Kd.S_up HO286.out) hb); have n4_ := Aside0.mk (Kd.R_lower (Kd.R_new' (Kd.R_new' ho0 (Kd.R_lt (Kd.R_up HO277.out))) (Kd.R_lt (Kd.R_up HO283.out))) (below_size (below_up HB.out))); have n5_ := Aside0.mk (below_step (below_up HB.out) hb); clear HO277; clear HO280; clear HO283; clear HO286; clear HB; have HO277 := n0_; have HO280 := n1_; have HO283 := n2_; have HO286 := n3_; have HO290 := n4_; have HB := n5_; clear n0_ n1_ n2_ n3_ n4_ n5_; (try clear hb); (try clear hb2); (try clear hk); (try clear hi); (try clear ho0); obtain ⟨Ao24, co24, eo24⟩ := Kd.R_slice HO290.out; subst eo24) | ((with_reducible refine gate_callee (f := 12) rfl ?_); refine goesL_ (some 30) rfl rfl Try.func12 (by kernel_rfl) rfl #[.slice Ao19 t281.length co19, .slice Ao24 t288.length co24] rfl (by (try simp only [List.map_toArray, List.map_cons, List.map_nil]); first | done | rfl | (simp only [List.length_drop, List.length_take]; rfl)) ?_; (with_reducible refine (laws_eqMemberS.calls k _ _ t281 _ _ t288 true _ ?side1 ?side2 ?side3 ?side4 A11.out).mono ?_); (case side1 => exact Kd.C_up ((Kd.R_reads' HO283.out).2.2)); (case side2 => exact (Kd.R_reads' HO283.out).2.1); (case side3 => exact Kd.C_up ((Kd.R_reads' HO290.out).2.2)); (case side4 => exact (Kd.R_reads' HO290.out).2.1); rintro e w25 ⟨rfl, hb⟩; refine ⟨_, rfl, ?_⟩; have n0_ := Aside0.mk (Kd.R_below (Kd.R_up HO277.out) hb); have n1_ := Aside0.mk (Kd.S_below (Kd.S_up HO280.out) hb); have n2_ := Aside0.mk (Kd.R_below (Kd.R_up HO283.out) hb); have n3_ := Aside0.mk (Kd.S_below (Kd.S_up HO286.out) hb); have n4_ := Aside0.mk (Kd.R_below (Kd.R_up HO290.out) hb); have n5_ := Aside0.mk (below_step (below_up HB.out) hb); clear HO277; clear HO280; clear HO283; clear HO286; clear HO290; clear HB; have HO277 := n0_; have HO280 := n1_; have HO283 := n2_; have HO286 := n3_; have HO290 := n4_; have HB := n5_; clear n0_ n1_ n2_ n3_ n4_ n5_; (try clear hb); (try clear hb2); (try clear hk); (try clear hi)) | ((with_reducible refine gate_callee (f := 13) rfl ?_); refine goesL_ (some 34) rfl rfl Try.func13 (by kernel_rfl) rfl #[.slice Ao19 t281.length co19, .int .i64 1] rfl (by (try simp only [List.map_toArray, List.map_cons, List.map_nil]); first | done | rfl | (simp only [List.length_drop, List.length_take]; rfl)) ?_; (with_reducible refine (laws_markMemberS.calls k (fun k_ => some k_ = (.slice Ao19 t281.length co19 : Value).ownBlock) (.slice Ao19 t281.length co19) t281 1 t292 t293 w _ ?side1 ?side2 A13.out).mono ?_); (case side1 => exact below_up HB.out); (case side2 => exact Kd.R_tight rfl HO283.out); rintro e w26 ⟨rfl, hy0, hb, hkp⟩; refine ⟨_, rfl, ?_⟩; have n0_ := Aside0.mk (Kd.R_mono (ok' := fun k_ => some k_ ≠ (.slice Ao19 t281.length co19 : Value).ownBlock ∧ some k_ ≠ (.slice Ao24 t288.length co24 : Value).ownBlock) (Kd.R_keptB (HO277.out) hkp (fun k_ hk_ hs_ => (hk_.1.2) hs_)) (fun k_ hk_ => ⟨hk_.1.1.2, hk_.1.2⟩)); have n1_ := Aside0.mk (Kd.S_mono (ok' := fun k_ => k_ < bb ∧ some k_ ≠ (.slice Ao21 t284.length co21 : Value).ownBlock) (Kd.S_keptB ((Kd.S_apart' HO280.out (Kd.R_typed HO283.out) (by decide))) hkp (fun k_ hk_ hs_ => (hk_.2) hs_)) (fun k_ hk_ => hk_.1.1)); have n2_ := Aside0.mk (Kd.R_reok rfl hy0 (fun k_ e_ => HO283.out.1 k_ e_)); have n3_ := Aside0.mk (Kd.S_mono (ok' := fun k_ => some k_ ≠ (.slice Ao22 t278.length co22 : Value).ownBlock) (Kd.S_keptB ((Kd.S_apart' HO286.out (Kd.R_typed HO283.out) (by decide))) hkp (fun k_ hk_ hs_ => (hk_.2) hs_)) (fun k_ hk_ => hk_.1.1.2)); have n4_ := Aside0.mk (Kd.R_mono (ok' := fun k_ => some k_ ≠ (.slice Ao16 t275.length co16 : Value).ownBlock ∧ some k_ ≠ (.slice Ao19 t281.length co19 : Value).ownBlock) (Kd.R_keptB (HO290.out) hkp (fun k_ hk_ hs_ => (hk_.2) hs_)) (fun k_ hk_ => ⟨hk_.1.1.2, hk_.1.2⟩)); have n5_ := Aside0.mk (hb); clear HO277; clear HO280; clear HO283; clear HO286; clear HO290; clear HB; have HO277 := n0_; have HO280 := n1_; have HO283 := n2_; have HO286 := n3_; have HO290 := n4_; have HB := n5_; clear n0_ n1_ n2_ n3_ n4_ n5_; (try clear hb); (try clear hkp); (try clear hy0)))
 (try simp only [Act.put, List.setIfInBounds_toArray, List.set_cons_zero, List.set_cons_succ])
 go_cut [42] (fun v42 wc => ∃ (kq : Nat) (x42_13 : Bool), v42 = .bool x42_13 ∧ Aside0 (laws_FnExactRopeTeams.j0 kq l0 t278 t284 x42_13 = some true) ∧ Aside0 (kq ≤ k) ∧ Aside0 (Kd.S (Kd.slice 3 (Kd.int .i64)) 36 wc w.heap.size (fun k_ => k_ < bb ∧ some k_ ≠ ((.slice Ao21 t284.length co21) : Value).ownBlock) (.slice Ao22 t278.length co22) t278) ∧ Aside0 (Kd.S (Kd.slice 3 (Kd.int .i64)) 36 wc bb (fun k_ => some k_ ≠ ((.slice Ao22 t278.length co22) : Value).ownBlock) (.slice Ao21 t284.length co21) t284) ∧ Aside0 (Below w.heap.size w wc))
 case first =>
  have H := HC14.out
  clear HC14
  by_cases c27 : t292 < 0
  · rw [if_pos c27] at H
    have c27b0 : decide (t292 < 0) = true := decide_eq_true c27
    clear c27
    (first | rw [c27b0] | (simp only [i64_w, i32_w]; rw [c27b0]) | skip)
    have H' := Aside0.mk H
    clear H
    go_wp2
    go_meet
    case rel => exact ⟨_, (true), (by first | rfl | (simp; done) | (simp [*]; done)), H', ⟨by first | omega | exact Nat.le_refl _⟩, ⟨Kd.S_up HO280.out⟩, ⟨Kd.S_up HO286.out⟩, ⟨below_up HB.out⟩⟩
  rw [if_neg c27] at H
  have c27b0 : decide (t292 < 0) = false := decide_eq_false c27
  clear c27
  (first | rw [c27b0] | (simp only [i64_w, i32_w]; rw [c27b0]) | skip)
  replace H := Option.bind_eq_some_iff.mp H
  obtain ⟨t294, A280, H⟩ := H
  have A28 := Aside0.mk A280
  clear A280
  have H' := Aside0.mk H
  clear H
  go_wp2_with (first | (go_at_call 11; (with_reducible refine (laws_eqIntSS.calls k _ _ t284 _ _ t278 t294 _ ?side1 ?side2 ?side3 ?side4 A28.out).mono ?_); (case side1 => exact Kd.C_up ((Kd.S_reads' HO286.out).2.2)); (case side2 => exact (Kd.S_reads' HO286.out).2.1); (case side3 => exact Kd.C_up ((Kd.S_reads' HO280.out).2.2)); (case side4 => exact (Kd.S_reads' HO280.out).2.1); rintro e w' ⟨rfl, ⟨nd, rfl⟩⟩))
  go_meet
  case rel => exact ⟨_, (!t294), (by first | rfl | (simp; done) | (simp [*]; done)), H', ⟨by first | omega | exact Nat.le_refl _⟩, ⟨Kd.S_up HO280.out⟩, ⟨Kd.S_up HO286.out⟩, ⟨below_up HB.out⟩⟩
 case rest =>
  clear HC14
  try clear c1
  try clear c2
  try clear p2
  try clear c3
  try clear c3b0
  try clear c7
  try clear c8
  try clear c9
  try clear c10
  try clear c11
  try clear c12
  try clear c13
  try clear c27
  try clear c27b0
  obtain ⟨kq, x42_13, rfl, HA, HJ13, HO_4, HO_6, HB⟩ := hcut
  cases kq with
  | zero => exact absurd HA.out (by simp [laws_FnExactRopeTeams.j0])
  | succ kj13 =>
   have H := HA.out
   clear HA
   simp only [laws_FnExactRopeTeams.j0] at H
   by_cases c29 : x42_13 = true
   · subst c29
     rw [if_pos rfl] at H
     exact absurd H (by simp)
   replace c29 := Bool.eq_false_iff.mpr c29
   subst c29
   rw [if_neg (show ¬ (false = true) by decide)] at H
   replace H := Option.bind_eq_some_iff.mp H
   obtain ⟨⟨t295, t296⟩, A300, H⟩ := H
   dsimp only at H
   have A30 := Aside0.mk A300
   clear A300
   replace H := Option.bind_eq_some_iff.mp H
   obtain ⟨t297, A310, H⟩ := H
   have A31 := Aside0.mk A310
   clear A310
   by_cases c32 : t297 < 0
   · rw [if_pos c32] at H
     have c32b0 : decide (t297 < 0) = true := decide_eq_true c32
     clear c32
     exact absurd H (by simp)
   rw [if_neg c32] at H
   have c32b0 : decide (t297 < 0) = false := decide_eq_false c32
   clear c32
   by_cases c34 : t297 = t295
   rotate_left
   · rw [if_neg c34] at H
     have c34b0 : (t297 == t295) = false := beq_eq_false_iff_ne.mpr c34
     have c34b1 : (t297 != t295) = true := bne_iff_ne.mpr c34
     exact absurd H (by simp)
   rw [if_pos c34] at H
   have c34b0 : (t297 == t295) = true := beq_iff_eq.mpr c34
   have c34b1 : (t297 != t295) = false := bne_eq_false_iff_eq.mpr c34
   clear c34
   replace H := Option.bind_eq_some_iff.mp H
   obtain ⟨t298, A350, H⟩ := H
   have A35 := Aside0.mk A350
   clear A350
   replace H := Option.bind_eq_some_iff.mp H
   obtain ⟨t301, A360, H⟩ := H
   have A36 := Aside0.mk A360
   clear A360
   replace H := Option.bind_eq_some_iff.mp H
   obtain ⟨t304, A370, H⟩ := H
   have A37 := Aside0.mk A370
   clear A370
   by_cases c38 : t304 = true
   rotate_left
   · replace c38 := Bool.eq_false_iff.mpr c38
     subst c38
     rw [if_neg (show ¬ (false = true) by decide)] at H
     exact absurd H (by simp)
   subst c38
   rw [if_pos rfl] at H
   replace H := Option.bind_eq_some_iff.mp H
   obtain ⟨t305, A390, H⟩ := H
   have A39 := Aside0.mk A390
   clear A390
   by_cases c40 : t305 < 0
   · rw [if_pos c40] at H
     have c40b0 : decide (t305 < 0) = true := decide_eq_true c40
     clear c40
     exact absurd H (by simp)
   rw [if_neg c40] at H
   have c40b0 : decide (t305 < 0) = false := decide_eq_false c40
   clear c40
   by_cases c46 : t305 = t295
   rotate_left
   · rw [if_neg c46] at H
     have c46b0 : (t305 == t295) = false := beq_eq_false_iff_ne.mpr c46
     have c46b1 : (t305 != t295) = true := bne_iff_ne.mpr c46
     exact absurd H (by simp)
   rw [if_pos c46] at H
   have c46b0 : (t305 == t295) = true := beq_iff_eq.mpr c46
   have c46b1 : (t305 != t295) = false := bne_eq_false_iff_eq.mpr c46
   clear c46
   clear H
   obtain ⟨mb, hmb⟩ : ∃ m_, m_ = min bb wc.heap.size := ⟨_, rfl⟩
   obtain ⟨wb, hwb, hbw⟩ := cut_world wc mb (by omega)
   have HW_ := Aside0.mk hbw
   have HM_ := Aside0.mk (show w.heap.size ≤ mb from by have h1_ := HBB.out; have h2_ := HB.out.size; omega)
   have HV_ := Aside0.mk (show Kd.S (Kd.slice 3 (Kd.int .i64)) 36 wc wb.heap.size (fun k_ => mb ≤ k_) (.slice Ao21 t284.length co21) t284 from by rw [hwb]; exact Kd.S_mono (Kd.S_bound (Kd.S_lower HO_6.out (by omega))) (fun k_ hk_ => hk_.2.1))
   have HU_ := Aside0.mk (Kd.S_mono (ok' := fun k_ => k_ < mb ∧ some k_ ≠ (.slice Ao21 t284.length co21 : Value).ownBlock) (Kd.S_bound HO_4.out) (fun k_ hk_ => ⟨by have h1_ := hk_.1.1; have h2_ := hk_.2.2.1; omega, hk_.1.2⟩))
   clear hbw hwb hmb
   go_wp2_with (first | ((with_reducible refine gate_callee (f := 14) rfl ?_); refine goesL_ (some 45) rfl rfl Try.func14 (by kernel_rfl) rfl #[.slice Ao21 t284.length co21, .int .i64 1] rfl (by (try simp only [List.map_toArray, List.map_cons, List.map_nil]); first | done | rfl | (simp only [List.length_drop, List.length_take]; rfl)) ?_; (refine (laws_markIntSS.calls kj13 (fun k_ => mb ≤ k_) (.slice Ao21 t284.length co21) t284 1 t295 t296 wb _ ?side1 ?side2 A30.out).mono ?_); (case side1 => repeat (first | exact HW_.out | apply pw_below_drewN | apply below_drew1)); (case side2 => repeat (first | exact HV_.out | apply Kd.S_drewN | apply Kd.S_drew)); rintro e w47 ⟨rfl, hy0, hb, hkp⟩; refine ⟨_, rfl, ?_⟩; have n0_ := Aside0.mk (Kd.S_mono (ok' := fun k_ => some k_ ≠ (.slice Ao21 t284.length co21 : Value).ownBlock) (Kd.S_keptB HU_.out hkp (fun k_ hk_ hs_ => Nat.not_lt.2 hs_ hk_.1)) (fun k_ hk_ => hk_.1.2)); have n1_ := Aside0.mk hy0; have n2_ := Aside0.mk (below_mark HB.out HW_.out hb hkp (fun k_ hk_ => Nat.le_trans HM_.out hk_)); clear HO_4; clear HO_6; clear HB; have HO_4 := n0_; have HO_6 := n1_; have HB := n2_; clear n0_ n1_ n2_; (try clear hb); (try clear hkp); (try clear hy0)) | ((with_reducible refine gate_callee (f := 15) rfl ?_); refine goesL_ (some 48) rfl rfl Try.func15 (by kernel_rfl) rfl #[.slice Ao21 t296.length co21, .int .i64 1] rfl (by (try simp only [List.map_toArray, List.map_cons, List.map_nil]); first | done | (rw [show t296.length = t284.length from (Kd.S_reads' HO_6.out).1.symm] <;> rfl) | rfl | (simp only [List.length_drop, List.length_take]; rfl)) ?_; (with_reducible refine (laws_heldIntSS.calls kj13 _ _ t296 1 t297 _ ?side1 ?side2 A31.out).mono ?_); (case side1 => repeat (first | exact (Kd.S_reads' HO_6.out).2.2 | (with_reducible refine Kd.C_alloc ?_ _) | (with_reducible refine Kd.C_drewN ?_ _) | (with_reducible refine Kd.C_drew ?_))); (case side2 => rw [show t296.length = t284.length from (Kd.S_reads' HO_6.out).1.symm]; exact (Kd.S_reads' HO_6.out).2.1); rintro e w' ⟨rfl, ⟨nd, rfl⟩⟩; refine ⟨_, rfl, ?_⟩) | ((with_reducible refine gate_callee (f := 9) rfl ?_); refine goesL_ (some 55) rfl rfl Try.func9 (by kernel_rfl) rfl #[.slice A0 l0.length c0] rfl (by (try simp only [List.map_toArray, List.map_cons, List.map_nil]); first | done | rfl | (simp only [List.length_drop, List.length_take]; rfl)) ?_; (with_reducible refine (laws_toMemberS.calls kj13 _ _ l0 t298 _ ?side1 ?side2 A35.out).mono ?_); (case side1 => exact (Kd.C_below HR0.out (below_up HB.out))); (case side2 => exact HC0.out); rintro e w48 ⟨v299, rfl, ho0, hb⟩; refine ⟨_, rfl, ?_⟩; have n0_ := Aside0.mk (Kd.S_below (Kd.S_up HO_4.out) hb); have n1_ := Aside0.mk (Kd.S_below (Kd.S_up HO_6.out) hb); have n2_ := Aside0.mk (Kd.R_lower ho0 (below_size (below_up HB.out))); have n3_ := Aside0.mk (below_step (below_up HB.out) hb); clear HO_4; clear HO_6; clear HB; have HO_4 := n0_; have HO_6 := n1_; have HO300 := n2_; have HB := n3_; clear n0_ n1_ n2_ n3_; (try clear hb); (try clear hb2); (try clear hk); (try clear hi); (try clear ho0); obtain ⟨Ao49, co49, eo49⟩ := Kd.R_slice HO300.out; subst eo49) | ((with_reducible refine gate_callee (f := 10) rfl ?_); refine goesL_ (some 56) rfl rfl Try.func10 (by kernel_rfl) rfl #[.slice Ao49 t298.length co49] rfl (by (try simp only [List.map_toArray, List.map_cons, List.map_nil]); first | done | rfl | (simp only [List.length_drop, List.length_take]; rfl)) ?_; (with_reducible refine (impl_RopeTeams.calls kj13 _ _ t298 t301 _ ?side1 ?side2 A36.out).mono ?_); (case side1 => exact Kd.C_up ((Kd.R_reads' HO300.out).2.2)); (case side2 => exact (Kd.R_reads' HO300.out).2.1); rintro e w50 ⟨v302, rfl, ho0, hb⟩; refine ⟨_, rfl, ?_⟩; have n0_ := Aside0.mk (Kd.S_elder' (Kd.S_up HO_4.out) (Kd.S_base ho0) hb); have n1_ := Aside0.mk (Kd.S_elder' (Kd.S_up HO_6.out) (Kd.S_base ho0) hb); have n2_ := Aside0.mk (Kd.R_below (Kd.R_up HO300.out) hb); have n3_ := Aside0.mk (Kd.S_lower (Kd.S_new' (Kd.S_new' ho0 (Kd.S_lt (Kd.S_up HO_4.out))) (Kd.S_lt (Kd.S_up HO_6.out))) (below_size (below_up HB.out))); have n4_ := Aside0.mk (below_step (below_up HB.out) hb); clear HO_4; clear HO_6; clear HO300; clear HB; have HO_4 := n0_; have HO_6 := n1_; have HO300 := n2_; have HO303 := n3_; have HB := n4_; clear n0_ n1_ n2_ n3_ n4_; (try clear hb); (try clear hb2); (try clear hk); (try clear hi); (try clear ho0); obtain ⟨Ao51, co51, eo51⟩ := Kd.S_slice HO303.out; subst eo51) | ((with_reducible refine gate_callee (f := 11) rfl ?_); refine goesL_ (some 59) rfl rfl Try.func11 (by kernel_rfl) rfl #[.slice Ao51 t301.length co51, .slice Ao22 t278.length co22] rfl (by (try simp only [List.map_toArray, List.map_cons, List.map_nil]); first | done | rfl | (simp only [List.length_drop, List.length_take]; rfl)) ?_; (with_reducible refine (laws_eqIntSS.calls kj13 _ _ t301 _ _ t278 true _ ?side1 ?side2 ?side3 ?side4 A37.out).mono ?_); (case side1 => exact Kd.C_up ((Kd.S_reads' HO303.out).2.2)); (case side2 => exact (Kd.S_reads' HO303.out).2.1); (case side3 => exact Kd.C_up ((Kd.S_reads' HO_4.out).2.2)); (case side4 => exact (Kd.S_reads' HO_4.out).2.1); rintro e w' ⟨rfl, ⟨nd, rfl⟩⟩; refine ⟨_, rfl, ?_⟩) | ((with_reducible refine gate_callee (f := 15) rfl ?_); refine goesL_ (some 63) rfl rfl Try.func15 (by kernel_rfl) rfl #[.slice Ao21 t296.length co21, .int .i64 1] rfl (by (try simp only [List.map_toArray, List.map_cons, List.map_nil]); first | done | (rw [show t296.length = t284.length from (Kd.S_reads' HO_6.out).1.symm] <;> rfl) | rfl | (simp only [List.length_drop, List.length_take]; rfl)) ?_; (with_reducible refine (laws_heldIntSS.calls kj13 _ _ t296 1 t305 _ ?side1 ?side2 A39.out).mono ?_); (case side1 => exact Kd.C_up ((Kd.S_reads' HO_6.out).2.2)); (case side2 => rw [show t296.length = t284.length from (Kd.S_reads' HO_6.out).1.symm]; exact (Kd.S_reads' HO_6.out).2.1); rintro e w' ⟨rfl, ⟨nd, rfl⟩⟩; refine ⟨_, rfl, ?_⟩))
   go_ret
   exact ⟨by first | rfl | (simp [errW_none, errW_some] <;> rfl) | (simp [*, errW_none, errW_some] <;> rfl), below_up HB.out⟩
end Go.Proofs.Ytdgpnmbmnnmdcaa.PFnExactRopeTeams
