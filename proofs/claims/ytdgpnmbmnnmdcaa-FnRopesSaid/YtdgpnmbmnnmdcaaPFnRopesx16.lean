/- Contracts of Go functions: what print.sh prints, written shorter by low.py. -/
import Derived.Test.YtdgpnmbmnnmdcaaLow
import Derived.Test.YtdgpnmbmnnmdcaaUp
import Derived.Test.YtdgpnmbmnnmdcaaPFnRopesx0
import Derived.Test.YtdgpnmbmnnmdcaaPFnRopesx1
import Derived.Test.YtdgpnmbmnnmdcaaPFnRopesx2
import Derived.Test.YtdgpnmbmnnmdcaaPFnRopesx4
import Derived.Test.YtdgpnmbmnnmdcaaPFnRopesx5
import Derived.Test.YtdgpnmbmnnmdcaaPFnRopesx6
import Derived.Test.YtdgpnmbmnnmdcaaPFnRopesx7
import Derived.Test.YtdgpnmbmnnmdcaaPFnRopesx12
import Derived.Test.YtdgpnmbmnnmdcaaPFnRopesx15
namespace Go.Proofs.Ytdgpnmbmnnmdcaa.PFnRopes
open Go.RowKit Go.Proofs.YtdgpnmbmnnmdcaaW.PrintWords Go.Proofs.YtdgpnmbmnnmdcaaW.PrintLast Go.Proofs.YtdgpnmbmnnmdcaaW.PrintMore
attribute [local go_sem] max2_int min2_int max_two min_two max_three min_three max_four min_four   -- for this text's walks alone
set_option linter.unusedVariables false
set_option linter.unusedSimpArgs false

/-! ### laws_FnRopes: function 4 -/
mutual
def laws_FnRopes.l0 : Nat → List Int → List (S68) → List (List Int) → Int → Int → Option (Bool)
 | 0, _, _, _, _, _ => none
 | k + 1, x0, x3, x4, x5, x6 => if x6 < (x4.length : Int) then (if 0 ≤ x6 then ((impl_LeaderOf.f k x3 (rd_L3 x4 x6)).bind fun t585 => (if t585 = 0 then (some false) else ((impl_LeaderOf.f k x3 (rd_L3 x4 x6)).bind fun t588 => ((laws_contains.f k (rd_L3 x4 x6) t588).bind fun t589 => (if t589 = true then (laws_FnRopes.l0 k x0 x3 x4 (wrap64 (x5 + ((rd_L3 x4 x6).length : Int))) (wrap64 (x6 + 1))) else (some false)))))) else (none)) else ((impl_Healthy.f k x3).bind fun t590 => ((spec_Healthy.f k x3).bind fun t593 => (if (t590.length : Int) = (t593.length : Int) then ((impl_Healthy.f k x3).bind fun t596 => ((impl_CanRope.f k x3).bind fun t599 => (if (t599 != (decide ((x4.length : Int) > 0))) = true then (laws_FnRopes.j1 k x0 true) else ((impl_AreCrew.f k x3).bind fun t600 => (if t600 = true then ((impl_AreRoped.f k x3 x4).bind fun t601 => (if t601 = true then (if (x4.length : Int) > 0 then (if x5 = (t596.length : Int) then ((impl_CanRope.f k x3).bind fun t602 => ((impl_AreCrew.f k x3).bind fun t603 => (if t603 = true then (laws_FnRopes.j1 k x0 (t602 != (decide ((t596.length : Int) ≥ 2)))) else (laws_FnRopes.j1 k x0 (t602 != false))))) else (laws_FnRopes.j1 k x0 true)) else ((impl_CanRope.f k x3).bind fun t604 => ((impl_AreCrew.f k x3).bind fun t605 => (if t605 = true then (laws_FnRopes.j1 k x0 (t604 != (decide ((t596.length : Int) ≥ 2)))) else (laws_FnRopes.j1 k x0 (t604 != false)))))) else (laws_FnRopes.j1 k x0 true))) else (if (x4.length : Int) > 0 then (if x5 = (t596.length : Int) then ((impl_CanRope.f k x3).bind fun t606 => ((impl_AreCrew.f k x3).bind fun t607 => (if t607 = true then (laws_FnRopes.j1 k x0 (t606 != (decide ((t596.length : Int) ≥ 2)))) else (laws_FnRopes.j1 k x0 (t606 != false))))) else (laws_FnRopes.j1 k x0 true)) else ((impl_CanRope.f k x3).bind fun t608 => ((impl_AreCrew.f k x3).bind fun t609 => (if t609 = true then (laws_FnRopes.j1 k x0 (t608 != (decide ((t596.length : Int) ≥ 2)))) else (laws_FnRopes.j1 k x0 (t608 != false))))))))))) else (some false))))
def laws_FnRopes.j1 : Nat → List Int → Bool → Option (Bool)
 | 0, _, _ => none
 | k + 1, x0, x97 => if x97 = true then (some false) else ((spec_DrawIceOn.f k x0).bind fun bt610 => ((impl_IceOn.f k bt610.1 bt610.2.1 bt610.2.2.1 bt610.2.2.2).bind fun t619 => (if t619 ≥ 0 then (some (decide (t619 ≤ (bt610.2.2.2.length : Int)))) else (some false))))
end
def laws_FnRopes.f (k : Nat) (l0 : List Int) : Option (Bool) := (laws_big.f l0).bind fun t576 => (if t576 = true then (some true) else ((spec_DrawRopeTeams.f k l0).bind fun t577 => ((impl_RopeTeams.f k t577).bind fun t580 => (laws_FnRopes.l0 k l0 t577 t580 0 0))))
theorem laws_FnRopes.mono_l : ∀ k, (∀ y0 y1 y2 y3 y4, LeO (laws_FnRopes.l0 k y0 y1 y2 y3 y4) (laws_FnRopes.l0 (k + 1) y0 y1 y2 y3 y4)) ∧ (∀ y0 y1, LeO (laws_FnRopes.j1 k y0 y1) (laws_FnRopes.j1 (k + 1) y0 y1))
 | 0 => ⟨fun _ _ _ _ _ r h => by simp [laws_FnRopes.l0] at h, fun _ _ r h => by simp [laws_FnRopes.j1] at h⟩
 | k + 1 => by
  obtain ⟨ih0, ih1⟩ := laws_FnRopes.mono_l k
  refine ⟨?_, ?_⟩
  · intro y0 y1 y2 y3 y4
    unfold laws_FnRopes.l0
    repeat' first
    | (with_reducible exact ih0 _ _ _ _ _)
    | (with_reducible exact ih1 _ _)
    | (with_reducible exact impl_AreCrew.mono _ _)
    | (with_reducible exact impl_AreRoped.mono _ _ _)
    | (with_reducible exact impl_CanRope.mono _ _)
    | (with_reducible exact impl_Healthy.mono _ _)
    | (with_reducible exact impl_IceOn.mono _ _ _ _ _)
    | (with_reducible exact impl_LeaderOf.mono _ _ _)
    | (with_reducible exact impl_RopeTeams.mono _ _)
    | (with_reducible exact laws_contains.mono _ _ _)
    | (with_reducible exact spec_DrawIceOn.mono _ _)
    | (with_reducible exact spec_DrawRopeTeams.mono _ _)
    | (with_reducible exact spec_Healthy.mono _ _)
    | (with_reducible exact LeO.refl _)
    | (with_reducible exact LeO.none _)
    | (with_reducible refine LeO.ite ?_ ?_)
    | (with_reducible refine LeO.bind ?_ (fun _ => ?_))
    | exact ih0 _ _ _ _ _
    | exact ih1 _ _
    | exact impl_AreCrew.mono _ _
    | exact impl_AreRoped.mono _ _ _
    | exact impl_CanRope.mono _ _
    | exact impl_Healthy.mono _ _
    | exact impl_IceOn.mono _ _ _ _ _
    | exact impl_LeaderOf.mono _ _ _
    | exact impl_RopeTeams.mono _ _
    | exact laws_contains.mono _ _ _
    | exact spec_DrawIceOn.mono _ _
    | exact spec_DrawRopeTeams.mono _ _
    | exact spec_Healthy.mono _ _
    | exact LeO.none _
    | refine LeO.ite ?_ ?_
    | refine LeO.bind ?_ (fun _ => ?_)
  · intro y0 y1
    unfold laws_FnRopes.j1
    repeat' first
    | (with_reducible exact ih0 _ _ _ _ _)
    | (with_reducible exact ih1 _ _)
    | (with_reducible exact impl_AreCrew.mono _ _)
    | (with_reducible exact impl_AreRoped.mono _ _ _)
    | (with_reducible exact impl_CanRope.mono _ _)
    | (with_reducible exact impl_Healthy.mono _ _)
    | (with_reducible exact impl_IceOn.mono _ _ _ _ _)
    | (with_reducible exact impl_LeaderOf.mono _ _ _)
    | (with_reducible exact impl_RopeTeams.mono _ _)
    | (with_reducible exact laws_contains.mono _ _ _)
    | (with_reducible exact spec_DrawIceOn.mono _ _)
    | (with_reducible exact spec_DrawRopeTeams.mono _ _)
    | (with_reducible exact spec_Healthy.mono _ _)
    | (with_reducible exact LeO.refl _)
    | (with_reducible exact LeO.none _)
    | (with_reducible refine LeO.ite ?_ ?_)
    | (with_reducible refine LeO.bind ?_ (fun _ => ?_))
    | exact ih0 _ _ _ _ _
    | exact ih1 _ _
    | exact impl_AreCrew.mono _ _
    | exact impl_AreRoped.mono _ _ _
    | exact impl_CanRope.mono _ _
    | exact impl_Healthy.mono _ _
    | exact impl_IceOn.mono _ _ _ _ _
    | exact impl_LeaderOf.mono _ _ _
    | exact impl_RopeTeams.mono _ _
    | exact laws_contains.mono _ _ _
    | exact spec_DrawIceOn.mono _ _
    | exact spec_DrawRopeTeams.mono _ _
    | exact spec_Healthy.mono _ _
    | exact LeO.none _
    | refine LeO.ite ?_ ?_
    | refine LeO.bind ?_ (fun _ => ?_)
theorem laws_FnRopes.mono : ∀ a0 k, LeO (laws_FnRopes.f k a0) (laws_FnRopes.f (k + 1) a0) := by
 intro a0 k
 obtain ⟨ih0, ih1⟩ := laws_FnRopes.mono_l k
 unfold laws_FnRopes.f
 repeat' first
  | (with_reducible exact ih0 _ _ _ _ _)
  | (with_reducible exact ih1 _ _)
  | (with_reducible exact impl_AreCrew.mono _ _)
  | (with_reducible exact impl_AreRoped.mono _ _ _)
  | (with_reducible exact impl_CanRope.mono _ _)
  | (with_reducible exact impl_Healthy.mono _ _)
  | (with_reducible exact impl_IceOn.mono _ _ _ _ _)
  | (with_reducible exact impl_LeaderOf.mono _ _ _)
  | (with_reducible exact impl_RopeTeams.mono _ _)
  | (with_reducible exact laws_contains.mono _ _ _)
  | (with_reducible exact spec_DrawIceOn.mono _ _)
  | (with_reducible exact spec_DrawRopeTeams.mono _ _)
  | (with_reducible exact spec_Healthy.mono _ _)
  | (with_reducible exact LeO.refl _)
  | (with_reducible exact LeO.none _)
  | (with_reducible refine LeO.ite ?_ ?_)
  | (with_reducible refine LeO.bind ?_ (fun _ => ?_))
  | exact ih0 _ _ _ _ _
  | exact ih1 _ _
  | exact impl_AreCrew.mono _ _
  | exact impl_AreRoped.mono _ _ _
  | exact impl_CanRope.mono _ _
  | exact impl_Healthy.mono _ _
  | exact impl_IceOn.mono _ _ _ _ _
  | exact impl_LeaderOf.mono _ _ _
  | exact impl_RopeTeams.mono _ _
  | exact laws_contains.mono _ _ _
  | exact spec_DrawIceOn.mono _ _
  | exact spec_DrawRopeTeams.mono _ _
  | exact spec_Healthy.mono _ _
  | exact LeO.none _
  | refine LeO.ite ?_ ?_
  | refine LeO.bind ?_ (fun _ => ?_)
def laws_FnRopes.T10 : Bool × List (List Nat × List Nat) := (true, [([], []), ([], []), ([], []), ([1, 2], [1, 2]), ([3], [3]), ([0, 4], [0, 4]), ([5], [5]), ([6, 5], [6]), ([7], [7]), ([7], [7]), ([8, 9, 7], [7, 8, 9]), ([10, 7], [7, 10]), ([7], [7]), ([7], [7]), ([7], [7]), ([13, 14, 7], [7, 13, 14]), ([15, 7], [7, 15]), ([12, 16, 7, 7], [7, 12, 16]), ([11, 17, 17, 7], [7, 11, 17]), ([18, 7], [7, 18]), ([7, 19], [7, 19])])
def laws_FnRopes.B10 : List Nat := [0, 0, 0, 6, 14, 31, 63, 127, 255, 255, 1023, 2047, 255, 255, 255, 24831, 57599, 127231, 262143, 524287, 1048575]
theorem laws_FnRopes.tab10 : rtab .any (opsOf Try.f4 10) = laws_FnRopes.T10 := by kernel_rfl
theorem laws_FnRopes.bits10 : waitsOk laws_FnRopes.T10.2 laws_FnRopes.B10 = true := by kernel_rfl
set_option maxHeartbeats 8000000 in
set_option maxRecDepth 100000 in
theorem laws_FnRopes.calls (k : Nat) (A0 : Option Addr) (c0 : Nat) (l0 : List Int) (_ : Bool) (w : World) (hr0 : Kd.C (Kd.int .u8) w A0 l0.length l0) (hc0 : l0.length ≤ c0) (h : laws_FnRopes.f k l0 = some true) :
 Calls Try.prog 4 #[.slice A0 l0.length c0] w fun e w' => e = .returned (.bool true) ∧ Below w.heap.size w w' := by
 have hu43 := Try.underlying43
 have HR0 := Aside0.mk hr0
 have HC0 := Aside0.mk hc0
 clear hr0 hc0
 have HB := Aside0.mk (Below.refl w.heap.size w)
 have H : ((laws_big.f l0).bind fun t576 => (if t576 = true then (some true) else ((spec_DrawRopeTeams.f k l0).bind fun t577 => ((impl_RopeTeams.f k t577).bind fun t580 => (laws_FnRopes.l0 k l0 t577 t580 0 0))))) = some true := h
 clear h
 replace H := Option.bind_eq_some_iff.mp H
 obtain ⟨t576, A20, H⟩ := H
 have A2 := Aside0.mk A20
 clear A20
 by_cases c3 : t576 = true
 · subst c3
   have H1 : (some true) = some true := rfl
   clear H
   have H := H1
   clear H1
   clear H
   go_enter Try.func4, Try.ntmps4
   go_wp2_with (first | ((with_reducible refine gate_callee (f := 16) rfl ?_); refine goesL_ (some 12) rfl rfl Try.func16 (by kernel_rfl) rfl #[.slice A0 l0.length c0] rfl (by (try simp only [List.map_toArray, List.map_cons, List.map_nil]); first | done | rfl | (simp only [List.length_drop, List.length_take]; rfl)) ?_; (with_reducible refine (laws_big.calls _ _ l0 true _ ?side1 ?side2 A2.out).mono ?_); (case side1 => exact Kd.C_up HR0.out); (case side2 => exact HC0.out); rintro e w' ⟨rfl, ⟨nd, rfl⟩⟩; refine ⟨_, rfl, ?_⟩))
   go_ret
   exact ⟨by first | rfl | (simp [errW_none, errW_some] <;> rfl) | (simp [*, errW_none, errW_some] <;> rfl), below_up HB.out⟩
 replace c3 := Bool.eq_false_iff.mpr c3
 subst c3
 rw [if_neg (show ¬ (false = true) by decide)] at H
 replace H := Option.bind_eq_some_iff.mp H
 obtain ⟨t577, A40, H⟩ := H
 have A4 := Aside0.mk A40
 clear A40
 replace H := Option.bind_eq_some_iff.mp H
 obtain ⟨t580, A50, H⟩ := H
 have A5 := Aside0.mk A50
 clear A50
 have H' := Aside0.mk H
 clear H
 go_enter Try.func4, Try.ntmps4
 go_wp2_with (first | ((with_reducible refine gate_callee (f := 16) rfl ?_); refine goesL_ (some 12) rfl rfl Try.func16 (by kernel_rfl) rfl #[.slice A0 l0.length c0] rfl (by (try simp only [List.map_toArray, List.map_cons, List.map_nil]); first | done | rfl | (simp only [List.length_drop, List.length_take]; rfl)) ?_; (with_reducible refine (laws_big.calls _ _ l0 false _ ?side1 ?side2 A2.out).mono ?_); (case side1 => exact Kd.C_up HR0.out); (case side2 => exact HC0.out); rintro e w' ⟨rfl, ⟨nd, rfl⟩⟩; refine ⟨_, rfl, ?_⟩) | ((with_reducible refine gate_callee (f := 17) rfl ?_); refine goesL_ (some 14) rfl rfl Try.func17 (by kernel_rfl) rfl #[.slice A0 l0.length c0] rfl (by (try simp only [List.map_toArray, List.map_cons, List.map_nil]); first | done | rfl | (simp only [List.length_drop, List.length_take]; rfl)) ?_; (with_reducible refine (spec_DrawRopeTeams.calls k _ _ l0 t577 _ ?side1 ?side2 A4.out).mono ?_); (case side1 => exact Kd.C_up HR0.out); (case side2 => exact HC0.out); rintro e w6 ⟨v578, rfl, ho0, hb⟩; refine ⟨_, rfl, ?_⟩; have n0_ := Aside0.mk (Kd.R_lower ho0 (below_size (below_up HB.out))); have n1_ := Aside0.mk (below_step (below_up HB.out) hb); have HO579 := n0_; replace HB := n1_; clear n0_ n1_; (try clear hb); (try clear hb2); (try clear hk); (try clear hi); (try clear ho0); obtain ⟨Ao7, co7, eo7⟩ := Kd.R_slice HO579.out; subst eo7) | ((with_reducible refine gate_callee (f := 10) rfl ?_); refine goesL_ (some 16) rfl rfl Try.func10 (by kernel_rfl) rfl #[.slice Ao7 t577.length co7] rfl (by (try simp only [List.map_toArray, List.map_cons, List.map_nil]); first | done | rfl | (simp only [List.length_drop, List.length_take]; rfl)) ?_; (with_reducible refine (impl_RopeTeams.calls k _ _ t577 t580 _ ?side1 ?side2 A5.out).mono ?_); (case side1 => exact Kd.C_up ((Kd.R_reads' HO579.out).2.2)); (case side2 => exact (Kd.R_reads' HO579.out).2.1); rintro e w8 ⟨v581, rfl, ho0, hb⟩; refine ⟨_, rfl, ?_⟩; have n0_ := Aside0.mk (Kd.R_below (Kd.R_up HO579.out) hb); have n1_ := Aside0.mk (Kd.S_lower ho0 (below_size (below_up HB.out))); have n2_ := Aside0.mk (below_step (below_up HB.out) hb); replace HO579 := n0_; have HO582 := n1_; replace HB := n2_; clear n0_ n1_ n2_; (try clear hb); (try clear hb2); (try clear hk); (try clear hi); (try clear ho0)))
 go_loopg [5, 6] k (fun kq v5 v6 w' => ∃ (x5_1 : Int) (x6_1 : Int), v5 = .int .i64 x5_1 ∧ v6 = .int .i64 x6_1 ∧ Aside0 (laws_FnRopes.l0 kq l0 t577 t580 x5_1 x6_1 = some true) ∧ Aside0 (kq ≤ k) ∧ Aside0 (Kd.R k68 68 w' w.heap.size (fun _ => True) (.slice Ao7 t577.length co7) t577) ∧ Aside0 (Kd.S (Kd.slice 3 (Kd.int .i64)) 36 w' w.heap.size (fun _ => True) v581 t580) ∧ Aside0 (Below w.heap.size w w'))
 case atStart => exact ⟨(0), (0), (by first | rfl | (simp; done) | (simp [*]; done)), (by first | rfl | (simp; done) | (simp [*]; done)), H', ⟨Nat.le_refl _⟩, ⟨by (with_reducible repeat (first | apply Kd.R_alloc | apply Kd.R_drewN | apply Kd.R_drew)); exact HO579.out⟩, ⟨by (with_reducible repeat (first | apply Kd.S_alloc | apply Kd.S_drewN | apply Kd.S_drew)); exact HO582.out⟩, ⟨below_up HB.out⟩⟩
 case round =>
  clear H'
  try clear c1
  try clear p2
  try clear c3
  try clear c4
  obtain ⟨x5_1, x6_1, rfl, rfl, HA, HK1, HO_3, HO_4, HB⟩ := hrel
  cases gk with
  | zero => exact absurd HA.out (by simp [laws_FnRopes.l0])
  | succ k1 =>
   have H := HA.out
   clear HA
   simp only [laws_FnRopes.l0] at H
   by_cases c9 : x6_1 < (t580.length : Int)
   · rw [if_pos c9] at H
     have c9b0 : decide (x6_1 < (t580.length : Int)) = true := decide_eq_true c9
     clear c9
     by_cases c10 : 0 ≤ x6_1
     rotate_left
     · rw [if_neg c10] at H
       exact absurd H (by simp)
     rw [if_pos c10] at H
     have c10b0 : decide (0 ≤ x6_1) = true := decide_eq_true c10
     clear c10
     replace H := Option.bind_eq_some_iff.mp H
     obtain ⟨t585, A110, H⟩ := H
     have A11 := Aside0.mk A110
     clear A110
     by_cases c12 : t585 = 0
     · rw [if_pos c12] at H
       have c12b0 : (t585 == 0) = true := beq_iff_eq.mpr c12
       have c12b1 : (t585 != 0) = false := bne_eq_false_iff_eq.mpr c12
       clear c12
       exact absurd H (by simp)
     rw [if_neg c12] at H
     have c12b0 : (t585 == 0) = false := beq_eq_false_iff_ne.mpr c12
     have c12b1 : (t585 != 0) = true := bne_iff_ne.mpr c12
     replace H := Option.bind_eq_some_iff.mp H
     obtain ⟨t588, A160, H⟩ := H
     have A16 := Aside0.mk A160
     clear A160
     replace H := Option.bind_eq_some_iff.mp H
     obtain ⟨t589, A170, H⟩ := H
     have A17 := Aside0.mk A170
     clear A170
     by_cases c18 : t589 = true
     rotate_left
     · replace c18 := Bool.eq_false_iff.mpr c18
       subst c18
       rw [if_neg (show ¬ (false = true) by decide)] at H
       exact absurd H (by simp)
     subst c18
     rw [if_pos rfl] at H
     have H' := Aside0.mk H
     clear H
     obtain ⟨Ao19, co19, eo19⟩ := Kd.S_slice HO_4.out
     subst eo19
     have p583 : 0 ≤ (x6_1 : Int) := of_decide_eq_true (by first | (with_reducible assumption) | assumption)
     have q583 : x6_1 < (t580.length : Int) := of_decide_eq_true (by first | (with_reducible assumption) | assumption)
     obtain ⟨ad583, A583_0, c583_0, e583, hx583_0, hl583_0, hi583_0⟩ := at_L3 (Kd.S_reads' HO_4.out).2.2 x6_1 p583 q583
     cases e583
     obtain ⟨ce583, hce583, hMe583, hcc583⟩ := Kd.S_get HO_4.out [] x6_1 p583 (by first | exact q583 | exact of_decide_eq_true (by first | (with_reducible assumption) | assumption) | (have e_ := (Kd.S_reads' HO_4.out).1; omega))
     obtain ⟨ve583_0, rfl, ge583_0⟩ := hMe583
     have hv583_0 := hcc583 0 _ rfl
     rw [Nat.add_zero, show ((Kd.slice 3 (Kd.int .i64))).sz = 1 from rfl, Nat.mul_one] at hv583_0
     replace hv583_0 := Option.some.inj (hv583_0.symm.trans hx583_0)
     rw [hv583_0] at ge583_0
     have HL583_0 := Aside0.mk (show Kd.R (Kd.int .i64) 3 _ _ _ _ (rd_L3 t580 x6_1) from ge583_0)
     clear hv583_0 ge583_0
     clear hcc583 hce583
     have HR583_0 := Aside0.mk hi583_0
     have HC583_0 := Aside0.mk hl583_0
     clear hi583_0 hl583_0
     replace p583 := eq_true p583
     replace q583 := eq_true q583
     try go_wp2
     have n0_ := Aside0.mk (Kd.R_drew HO_3.out)
     have n1_ := Aside0.mk (Kd.S_drew HO_4.out)
     have n2_ := Aside0.mk (Kd.R_drew HL583_0.out)
     have n3_ := Aside0.mk (Kd.C_drew HR583_0.out)
     have n4_ := Aside0.mk (below_drew1 HB.out)
     clear HO_3
     clear HO_4
     clear HL583_0
     clear HR583_0
     clear HB
     have HO_3 := n0_
     have HO_4 := n1_
     have HL583_0 := n2_
     have HR583_0 := n3_
     have HB := n4_
     clear n0_ n1_ n2_ n3_ n4_
     have p584 : 0 ≤ (x6_1 : Int) := of_decide_eq_true (by first | (with_reducible assumption) | assumption)
     have q584 : x6_1 < (t580.length : Int) := of_decide_eq_true (by first | (with_reducible assumption) | assumption)
     obtain ⟨ad584, A584_0, c584_0, e584, hx584_0, hl584_0, hi584_0⟩ := at_L3 (Kd.S_reads' HO_4.out).2.2 x6_1 p584 q584
     obtain rfl : ad583 = ad584 := (by injection e584)
     obtain ⟨ce584, hce584, hMe584, hcc584⟩ := Kd.S_get HO_4.out [] x6_1 p584 (by first | exact q584 | exact of_decide_eq_true (by first | (with_reducible assumption) | assumption) | (have e_ := (Kd.S_reads' HO_4.out).1; omega))
     obtain ⟨ve584_0, rfl, ge584_0⟩ := hMe584
     have hv584_0 := hcc584 0 _ rfl
     rw [Nat.add_zero, show ((Kd.slice 3 (Kd.int .i64))).sz = 1 from rfl, Nat.mul_one] at hv584_0
     replace hv584_0 := Option.some.inj (hv584_0.symm.trans hx584_0)
     rw [hv584_0] at ge584_0
     have HL584_0 := Aside0.mk (show Kd.R (Kd.int .i64) 3 _ _ _ _ (rd_L3 t580 x6_1) from ge584_0)
     clear hv584_0 ge584_0
     clear hcc584 hce584
     have HR584_0 := Aside0.mk hi584_0
     have HC584_0 := Aside0.mk hl584_0
     clear hi584_0 hl584_0
     replace p584 := eq_true p584
     replace q584 := eq_true q584
     have p586 : 0 ≤ (x6_1 : Int) := of_decide_eq_true (by first | (with_reducible assumption) | assumption)
     have q586 : x6_1 < (t580.length : Int) := of_decide_eq_true (by first | (with_reducible assumption) | assumption)
     obtain ⟨ad586, A586_0, c586_0, e586, hx586_0, hl586_0, hi586_0⟩ := at_L3 (Kd.S_reads' HO_4.out).2.2 x6_1 p586 q586
     obtain rfl : ad583 = ad586 := (by injection e586)
     obtain ⟨ce586, hce586, hMe586, hcc586⟩ := Kd.S_get HO_4.out [] x6_1 p586 (by first | exact q586 | exact of_decide_eq_true (by first | (with_reducible assumption) | assumption) | (have e_ := (Kd.S_reads' HO_4.out).1; omega))
     obtain ⟨ve586_0, rfl, ge586_0⟩ := hMe586
     have hv586_0 := hcc586 0 _ rfl
     rw [Nat.add_zero, show ((Kd.slice 3 (Kd.int .i64))).sz = 1 from rfl, Nat.mul_one] at hv586_0
     replace hv586_0 := Option.some.inj (hv586_0.symm.trans hx586_0)
     rw [hv586_0] at ge586_0
     have HL586_0 := Aside0.mk (show Kd.R (Kd.int .i64) 3 _ _ _ _ (rd_L3 t580 x6_1) from ge586_0)
     clear hv586_0 ge586_0
     clear hcc586 hce586
     have HR586_0 := Aside0.mk hi586_0
     have HC586_0 := Aside0.mk hl586_0
     clear hi586_0 hl586_0
     replace p586 := eq_true p586
     replace q586 := eq_true q586
     have p587 : 0 ≤ (x6_1 : Int) := of_decide_eq_true (by first | (with_reducible assumption) | assumption)
     have q587 : x6_1 < (t580.length : Int) := of_decide_eq_true (by first | (with_reducible assumption) | assumption)
     obtain ⟨ad587, A587_0, c587_0, e587, hx587_0, hl587_0, hi587_0⟩ := at_L3 (Kd.S_reads' HO_4.out).2.2 x6_1 p587 q587
     obtain rfl : ad583 = ad587 := (by injection e587)
     obtain ⟨ce587, hce587, hMe587, hcc587⟩ := Kd.S_get HO_4.out [] x6_1 p587 (by first | exact q587 | exact of_decide_eq_true (by first | (with_reducible assumption) | assumption) | (have e_ := (Kd.S_reads' HO_4.out).1; omega))
     obtain ⟨ve587_0, rfl, ge587_0⟩ := hMe587
     have hv587_0 := hcc587 0 _ rfl
     rw [Nat.add_zero, show ((Kd.slice 3 (Kd.int .i64))).sz = 1 from rfl, Nat.mul_one] at hv587_0
     replace hv587_0 := Option.some.inj (hv587_0.symm.trans hx587_0)
     rw [hv587_0] at ge587_0
     have HL587_0 := Aside0.mk (show Kd.R (Kd.int .i64) 3 _ _ _ _ (rd_L3 t580 x6_1) from ge587_0)
     clear hv587_0 ge587_0
     clear hcc587 hce587
     have HR587_0 := Aside0.mk hi587_0
     have HC587_0 := Aside0.mk hl587_0
     clear hi587_0 hl587_0
     replace p587 := eq_true p587
     replace q587 := eq_true q587
     have ea_ := Option.some.inj (hx586_0.symm.trans hx587_0)
     injection ea_ with ea_ en_ ec_
     subst ea_
     subst ec_
     clear en_
     have ea_ := Option.some.inj (hx586_0.symm.trans hx584_0)
     injection ea_ with ea_ en_ ec_
     subst ea_
     subst ec_
     clear en_
     refine start_ (n := 21) (S := fun w' => w'.cell? (ad583.add (x6_1).toNat) = some (.slice A586_0 (rd_L3 t580 x6_1).length c586_0) ∧ w'.cell? (ad583.add (x6_1).toNat) = some (.slice A586_0 (rd_L3 t580 x6_1).length c586_0) ∧ w'.cell? (ad583.add (x6_1).toNat) = some (.slice A586_0 (rd_L3 t580 x6_1).length c586_0)) (ds := []) (ar 21 0 []) (by kernel_rfl) rfl rfl ⟨hx584_0, hx586_0, hx587_0⟩ (fun hHeld => ?_); refine with_tabW laws_FnRopes.tab10 laws_FnRopes.bits10 (fun HT_ HW_ => ?_)
     generalize wr.drew = w20 at HO_3 HO_4 HL583_0 HR583_0 HB HL584_0 HL586_0 HL587_0 HR584_0 HR586_0 HR587_0 hx584_0 hx586_0 hx587_0 hHeld ⊢
     refine pu_ (i := 0) (N := 30) (v := ?_) (a' := ?_) (ar 21 1 []) rfl rfl (any_of HT_.out (by kernel_rfl)) ?_ ?_ ?_
     rotate_left
     · intro w'
       go_simp
       with_reducible rfl
     rotate_left
     · simp only [puts_]
       rfl
     refine pu_ (i := 1) (N := 31) (v := ?_) (a' := ?_) (ar 21 2 []) rfl rfl (any_of HT_.out (by kernel_rfl)) ?_ ?_ ?_
     rotate_left
     · intro w'
       go_simp
       with_reducible rfl
     rotate_left
     · simp only [puts_]
       rfl
     refine pu_ (i := 2) (N := 32) (v := ?_) (a' := ?_) (ar 21 3 []) rfl rfl (any_of HT_.out (by kernel_rfl)) ?_ ?_ ?_
     rotate_left
     · intro w'
       go_simp
       with_reducible rfl
     rotate_left
     · simp only [puts_]
       rfl
     refine pu_ (i := 3) (N := 33) (v := ?_) (a' := ?_) (ar 21 4 []) rfl rfl (any_of HT_.out (by kernel_rfl)) ?_ ?_ ?_
     rotate_left
     · intro w'
       go_simp
       with_reducible rfl
     rotate_left
     · simp only [puts_]
       rfl
     refine tk_ (i := 4) (N := 34) (v := ?_) (a' := ?_) (ar 21 5 []) rfl rfl (take_ofW HT_.out HW_.out (by kernel_rfl)) ?_ hHeld ?_ ?_
     rotate_left
     · rintro w' ⟨s0, s1, s2⟩
       go_simp
       with_reducible rfl
     rotate_left
     · simp only [puts_]
       rfl
     refine one_ (i := 5) (N := some 35) (ar 21 6 []) rfl rfl (one_of HT_.out (by kernel_rfl)) (by decide) (fun K hK => ?_)
     refine goes_ Try.func18 (by kernel_rfl) rfl #[.slice Ao7 t577.length co7, .slice A586_0 (rd_L3 t580 x6_1).length c586_0] (by rfl) rfl rfl (by (try simp only [List.map_toArray, List.map_cons, List.map_nil]); first | done | rfl | (simp only [List.length_drop, List.length_take]; rfl)) ?_
     with_reducible refine (impl_LeaderOf.calls k1 _ _ t577 _ _ (rd_L3 t580 x6_1) t585 _ ?side1 ?side2 ?side3 ?side4 A11.out).mono ?_
     (case side1 => exact Kd.C_up ((Kd.R_reads' HO_3.out).2.2))
     (case side2 => exact (Kd.R_reads' HO_3.out).2.1)
     (case side3 => repeat (first | exact (by repeat (first | (with_reducible exact HR584_0.out) | (with_reducible refine Kd.C_alloc ?_ _) | (with_reducible refine Kd.C_drewN ?_ _) | (with_reducible refine Kd.C_drew ?_) | exact HR584_0.out)) | (with_reducible refine Kd.C_alloc ?_ _) | (with_reducible refine Kd.C_drewN ?_ _) | (with_reducible refine Kd.C_drew ?_)))
     (case side4 => exact HC584_0.out)
     rintro e w21 ⟨rfl, hb⟩
     have HS0_ := (hb.cell (World.block_lt_of_cell? _ _ (hHeld.1))).trans (hHeld.1)
     have HS1_ := (hb.cell (World.block_lt_of_cell? _ _ (hHeld.2.1))).trans (hHeld.2.1)
     have HS2_ := (hb.cell (World.block_lt_of_cell? _ _ (hHeld.2.2))).trans (hHeld.2.2)
     refine ⟨_, rfl, ?_⟩
     have n0_ := Aside0.mk (Kd.R_below (Kd.R_up HO_3.out) hb)
     have n1_ := Aside0.mk (Kd.S_below (Kd.S_up HO_4.out) hb)
     have n2_ := Aside0.mk (Kd.R_below (Kd.R_up HL583_0.out) hb)
     have n3_ := Aside0.mk (Kd.R_below (Kd.R_up HL584_0.out) hb)
     have n4_ := Aside0.mk (Kd.C_below (by repeat (first | (with_reducible exact HR583_0.out) | (with_reducible refine Kd.C_alloc ?_ _) | (with_reducible refine Kd.C_drewN ?_ _) | (with_reducible refine Kd.C_drew ?_) | exact HR583_0.out)) hb)
     have n5_ := Aside0.mk (Kd.C_below (by repeat (first | (with_reducible exact HR584_0.out) | (with_reducible refine Kd.C_alloc ?_ _) | (with_reducible refine Kd.C_drewN ?_ _) | (with_reducible refine Kd.C_drew ?_) | exact HR584_0.out)) hb)
     have n6_ := Aside0.mk (below_step (below_up HB.out) hb); replace HL586_0 := Aside0.mk (Kd.R_below HL586_0.out hb); replace HL587_0 := Aside0.mk (Kd.R_below HL587_0.out hb); replace HR586_0 := Aside0.mk (Kd.C_below HR586_0.out hb); replace HR587_0 := Aside0.mk (Kd.C_below HR587_0.out hb)
     clear HO_3
     clear HO_4
     clear HL583_0
     clear HL584_0
     clear HR583_0
     clear HR584_0
     clear HB
     have HO_3 := n0_
     have HO_4 := n1_
     have HL583_0 := n2_
     have HL584_0 := n3_
     have HR583_0 := n4_
     have HR584_0 := n5_
     have HB := n6_
     clear n0_ n1_ n2_ n3_ n4_ n5_ n6_
     (try clear hb)
     (try clear hb2)
     (try clear hk)
     (try clear hi)
     refine hK.out _ _ ⟨HS0_, HS1_, HS2_⟩ (fun hHeld => ?_)
     clear hK K
     refine norm_ (a' := ?_) ?_ ?_
     rotate_left
     · show Act.put _ (some 35) _ = _
       simp only [puts_]
       rfl
     refine pu_ (i := 6) (N := 36) (v := ?_) (a' := ?_) (ar 21 7 []) rfl rfl (any_of HT_.out (by kernel_rfl)) ?_ ?_ ?_
     rotate_left
     · intro w'
       go_simp
       with_reducible rfl
     rotate_left
     · simp only [puts_]
       rfl
     refine pu_ (i := 7) (N := 37) (v := ?_) (a' := ?_) (ar 21 8 []) rfl rfl (any_of HT_.out (by kernel_rfl)) ?_ ?_ ?_
     rotate_left
     · intro w'
       go_simp
       with_reducible rfl
     rotate_left
     · simp only [puts_]
       rfl
     refine pu_ (i := 8) (N := 38) (v := ?_) (a' := ?_) (ar 21 9 []) rfl rfl (any_of HT_.out (by kernel_rfl)) ?_ ?_ ?_
     rotate_left
     · intro w'
       go_simp
       with_reducible rfl
     rotate_left
     · simp only [puts_]
       rfl
     refine pu_ (i := 9) (N := 39) (v := ?_) (a' := ?_) (ar 21 10 []) rfl rfl (any_of HT_.out (by kernel_rfl)) ?_ ?_ ?_
     rotate_left
     · intro w'
       go_simp
       with_reducible rfl
     rotate_left
     · simp only [puts_]
       rfl
     refine pu_ (i := 10) (N := 40) (v := ?_) (a' := ?_) (ar 21 11 []) rfl rfl (any_of HT_.out (by kernel_rfl)) ?_ ?_ ?_
     rotate_left
     · intro w'
       go_simp
       with_reducible rfl
     rotate_left
     · simp only [puts_]
       rfl
     refine pu_ (i := 12) (N := 42) (v := ?_) (a' := ?_) (ar 21 13 [11]) rfl rfl (any_of HT_.out (by kernel_rfl)) ?_ ?_ ?_
     rotate_left
     · intro w'
       go_simp
       with_reducible rfl
     rotate_left
     · simp only [puts_]
       rfl
     refine pu_ (i := 13) (N := 43) (v := ?_) (a' := ?_) (ar 21 14 [11]) rfl rfl (any_of HT_.out (by kernel_rfl)) ?_ ?_ ?_
     rotate_left
     · intro w'
       go_simp
       with_reducible rfl
     rotate_left
     · simp only [puts_]
       rfl
     refine pu_ (i := 14) (N := 44) (v := ?_) (a' := ?_) (ar 21 15 [11]) rfl rfl (any_of HT_.out (by kernel_rfl)) ?_ ?_ ?_
     rotate_left
     · intro w'
       go_simp
       with_reducible rfl
     rotate_left
     · simp only [puts_]
       rfl
     refine pu_ (i := 15) (N := 45) (v := ?_) (a' := ?_) (ar 21 16 [11]) rfl rfl (any_of HT_.out (by kernel_rfl)) ?_ ?_ ?_
     rotate_left
     · intro w'
       go_simp
       with_reducible rfl
     rotate_left
     · simp only [puts_]
       rfl
     refine tk_ (i := 11) (N := 41) (v := ?_) (a' := ?_) (ar 21 16 []) rfl rfl (take_ofW HT_.out HW_.out (by kernel_rfl)) ?_ hHeld ?_ ?_
     rotate_left
     · rintro w' ⟨s0, s1, s2⟩
       go_simp
       with_reducible rfl
     rotate_left
     · simp only [puts_]
       rfl
     refine tk_ (i := 16) (N := 46) (v := ?_) (a' := ?_) (ar 21 17 []) rfl rfl (take_ofW HT_.out HW_.out (by kernel_rfl)) ?_ hHeld ?_ ?_
     rotate_left
     · rintro w' ⟨s0, s1, s2⟩
       go_simp
       with_reducible rfl
     rotate_left
     · simp only [puts_]
       rfl
     refine one_ (i := 17) (N := some 47) (ar 21 18 []) rfl rfl (one_of HT_.out (by kernel_rfl)) (by decide) (fun K hK => ?_)
     refine goes_ Try.func18 (by kernel_rfl) rfl #[.slice Ao7 t577.length co7, .slice A586_0 (rd_L3 t580 x6_1).length c586_0] (by rfl) rfl rfl (by (try simp only [List.map_toArray, List.map_cons, List.map_nil]); first | done | rfl | (simp only [List.length_drop, List.length_take]; rfl)) ?_
     with_reducible refine (impl_LeaderOf.calls k1 _ _ t577 _ _ (rd_L3 t580 x6_1) t588 _ ?side1 ?side2 ?side3 ?side4 A16.out).mono ?_
     (case side1 => exact Kd.C_up ((Kd.R_reads' HO_3.out).2.2))
     (case side2 => exact (Kd.R_reads' HO_3.out).2.1)
     (case side3 => repeat (first | exact (by repeat (first | (with_reducible exact HR587_0.out) | (with_reducible refine Kd.C_alloc ?_ _) | (with_reducible refine Kd.C_drewN ?_ _) | (with_reducible refine Kd.C_drew ?_) | exact HR587_0.out)) | (with_reducible refine Kd.C_alloc ?_ _) | (with_reducible refine Kd.C_drewN ?_ _) | (with_reducible refine Kd.C_drew ?_)))
     (case side4 => exact HC587_0.out)
     rintro e w22 ⟨rfl, hb⟩
     have HS0_ := (hb.cell (World.block_lt_of_cell? _ _ (hHeld.1))).trans (hHeld.1)
     have HS1_ := (hb.cell (World.block_lt_of_cell? _ _ (hHeld.2.1))).trans (hHeld.2.1)
     have HS2_ := (hb.cell (World.block_lt_of_cell? _ _ (hHeld.2.2))).trans (hHeld.2.2)
     refine ⟨_, rfl, ?_⟩
     have n0_ := Aside0.mk (Kd.R_below (Kd.R_up HO_3.out) hb)
     have n1_ := Aside0.mk (Kd.S_below (Kd.S_up HO_4.out) hb)
     have n2_ := Aside0.mk (Kd.R_below (Kd.R_up HL583_0.out) hb)
     have n3_ := Aside0.mk (Kd.R_below (Kd.R_up HL584_0.out) hb)
     have n4_ := Aside0.mk (Kd.R_below (Kd.R_up HL586_0.out) hb)
     have n5_ := Aside0.mk (Kd.R_below (Kd.R_up HL587_0.out) hb)
     have n6_ := Aside0.mk (Kd.C_below (by repeat (first | (with_reducible exact HR583_0.out) | (with_reducible refine Kd.C_alloc ?_ _) | (with_reducible refine Kd.C_drewN ?_ _) | (with_reducible refine Kd.C_drew ?_) | exact HR583_0.out)) hb)
     have n7_ := Aside0.mk (Kd.C_below (by repeat (first | (with_reducible exact HR584_0.out) | (with_reducible refine Kd.C_alloc ?_ _) | (with_reducible refine Kd.C_drewN ?_ _) | (with_reducible refine Kd.C_drew ?_) | exact HR584_0.out)) hb)
     have n8_ := Aside0.mk (Kd.C_below (by repeat (first | (with_reducible exact HR586_0.out) | (with_reducible refine Kd.C_alloc ?_ _) | (with_reducible refine Kd.C_drewN ?_ _) | (with_reducible refine Kd.C_drew ?_) | exact HR586_0.out)) hb)
     have n9_ := Aside0.mk (Kd.C_below (by repeat (first | (with_reducible exact HR587_0.out) | (with_reducible refine Kd.C_alloc ?_ _) | (with_reducible refine Kd.C_drewN ?_ _) | (with_reducible refine Kd.C_drew ?_) | exact HR587_0.out)) hb)
     have n10_ := Aside0.mk (below_step (below_up HB.out) hb)
     clear HO_3
     clear HO_4
     clear HL583_0
     clear HL584_0
     clear HL586_0
     clear HL587_0
     clear HR583_0
     clear HR584_0
     clear HR586_0
     clear HR587_0
     clear HB
     have HO_3 := n0_
     have HO_4 := n1_
     have HL583_0 := n2_
     have HL584_0 := n3_
     have HL586_0 := n4_
     have HL587_0 := n5_
     have HR583_0 := n6_
     have HR584_0 := n7_
     have HR586_0 := n8_
     have HR587_0 := n9_
     have HB := n10_
     clear n0_ n1_ n2_ n3_ n4_ n5_ n6_ n7_ n8_ n9_ n10_
     (try clear hb)
     (try clear hb2)
     (try clear hk)
     (try clear hi)
     refine hK.out _ _ ⟨HS0_, HS1_, HS2_⟩ (fun hHeld => ?_)
     clear hK K
     refine norm_ (a' := ?_) ?_ ?_
     rotate_left
     · show Act.put _ (some 47) _ = _
       simp only [puts_]
       rfl
     refine one_ (i := 18) (N := some 48) (ar 21 19 []) rfl rfl (one_of HT_.out (by kernel_rfl)) (by decide) (fun K hK => ?_)
     refine goes_ Try.func19 (by kernel_rfl) rfl #[.slice A586_0 (rd_L3 t580 x6_1).length c586_0, .int .i64 t588] (by rfl) rfl rfl (by (try simp only [List.map_toArray, List.map_cons, List.map_nil]); first | done | rfl | (simp only [List.length_drop, List.length_take]; rfl)) ?_
     with_reducible refine (laws_contains.calls k1 _ _ (rd_L3 t580 x6_1) t588 true _ ?side1 ?side2 A17.out).mono ?_
     (case side1 => repeat (first | exact (by repeat (first | (with_reducible exact HR586_0.out) | (with_reducible refine Kd.C_alloc ?_ _) | (with_reducible refine Kd.C_drewN ?_ _) | (with_reducible refine Kd.C_drew ?_) | exact HR586_0.out)) | (with_reducible refine Kd.C_alloc ?_ _) | (with_reducible refine Kd.C_drewN ?_ _) | (with_reducible refine Kd.C_drew ?_)))
     (case side2 => exact HC586_0.out)
     rintro e w' ⟨rfl, ⟨nd, rfl⟩⟩
     refine ⟨_, rfl, ?_⟩
     refine hK.out _ _ ⟨hHeld.1, hHeld.2.1, hHeld.2.2⟩ (fun hHeld => ?_)
     clear hK K
     refine norm_ (a' := ?_) ?_ ?_
     rotate_left
     · show Act.put _ (some 48) _ = _
       simp only [puts_]
       rfl
     refine pu_ (i := 19) (N := 49) (v := ?_) (a' := ?_) (ar 21 20 []) rfl rfl (any_of HT_.out (by kernel_rfl)) ?_ ?_ ?_
     rotate_left
     · intro w'
       go_simp
       with_reducible rfl
     rotate_left
     · simp only [puts_]
       rfl
     refine pu_ (i := 20) (N := 50) (v := ?_) (a' := ?_) (ar 21 21 []) rfl rfl (any_of HT_.out (by kernel_rfl)) ?_ ?_ ?_
     rotate_left
     · intro w'
       go_simp
       with_reducible rfl
     rotate_left
     · simp only [puts_]
       rfl
     refine done_ (done_of HT_.out (by kernel_rfl)) ?_
     try go_wp2
     go_roundg k1
     case measure => have := HK1.out; omega
     case rel => exact ⟨(wrap64 (x5_1 + ((rd_L3 t580 x6_1).length : Int))), (wrap64 (x6_1 + 1)), (by first | rfl | (simp; done) | (simp [*]; done)), (by first | rfl | (simp; done) | (simp [*]; done)), H', ⟨by have := HK1.out; omega⟩, ⟨by (with_reducible repeat (first | apply Kd.R_alloc | apply Kd.R_drewN | apply Kd.R_drew)); exact HO_3.out⟩, ⟨by (with_reducible repeat (first | apply Kd.S_alloc | apply Kd.S_drewN | apply Kd.S_drew)); exact HO_4.out⟩, ⟨below_up HB.out⟩⟩
   rw [if_neg c9] at H
   have c9b0 : decide (x6_1 < (t580.length : Int)) = false := decide_eq_false c9
   clear c9
   replace H := Option.bind_eq_some_iff.mp H
   obtain ⟨t590, A270, H⟩ := H
   have A27 := Aside0.mk A270
   clear A270
   replace H := Option.bind_eq_some_iff.mp H
   obtain ⟨t593, A280, H⟩ := H
   have A28 := Aside0.mk A280
   clear A280
   by_cases c29 : (t590.length : Int) = (t593.length : Int)
   rotate_left
   · rw [if_neg c29] at H
     have c29b0 : ((t590.length : Int) == (t593.length : Int)) = false := beq_eq_false_iff_ne.mpr c29
     have c29b1 : ((t590.length : Int) != (t593.length : Int)) = true := bne_iff_ne.mpr c29
     have c29b2 : (t590.length == t593.length) = false := by first | simpa using c29 | (simp at c29 ⊢; omega)
     exact absurd H (by simp)
   rw [if_pos c29] at H
   have c29b0 : ((t590.length : Int) == (t593.length : Int)) = true := beq_iff_eq.mpr c29
   have c29b1 : ((t590.length : Int) != (t593.length : Int)) = false := bne_eq_false_iff_eq.mpr c29
   have c29b2 : (t590.length == t593.length) = true := by first | simpa using c29 | (simp at c29 ⊢; omega)
   clear c29
   replace H := Option.bind_eq_some_iff.mp H
   obtain ⟨t596, A300, H⟩ := H
   have A30 := Aside0.mk A300
   clear A300
   have HC31 := Aside0.mk H
   clear H
   obtain ⟨Ao32, co32, eo32⟩ := Kd.S_slice HO_4.out
   subst eo32
   go_upto_region 15 with (first | ((with_reducible refine gate_callee (f := 20) rfl ?_); refine goesL_ (some 52) rfl rfl Try.func20 (by kernel_rfl) rfl #[.slice Ao7 t577.length co7] rfl (by (try simp only [List.map_toArray, List.map_cons, List.map_nil]); first | done | rfl | (simp only [List.length_drop, List.length_take]; rfl)) ?_; (with_reducible refine (impl_Healthy.calls k1 _ _ t577 t590 _ ?side1 ?side2 A27.out).mono ?_); (case side1 => exact Kd.C_up ((Kd.R_reads' HO_3.out).2.2)); (case side2 => exact (Kd.R_reads' HO_3.out).2.1); rintro e w33 ⟨v591, rfl, ho0, hb⟩; refine ⟨_, rfl, ?_⟩; have n0_ := Aside0.mk (Kd.R_below (Kd.R_up HO_3.out) hb); have n1_ := Aside0.mk (Kd.S_elder' (Kd.S_up HO_4.out) (Kd.R_base ho0) hb); have n2_ := Aside0.mk (Kd.R_lower ho0 (below_size (below_up HB.out))); have n3_ := Aside0.mk (below_step (below_up HB.out) hb); replace HO_3 := n0_; replace HO_4 := n1_; have HO592 := n2_; replace HB := n3_; clear n0_ n1_ n2_ n3_; (try clear hb); (try clear hb2); (try clear hk); (try clear hi); (try clear ho0); obtain ⟨Ao34, co34, eo34⟩ := Kd.R_slice HO592.out; subst eo34) | ((with_reducible refine gate_callee (f := 21) rfl ?_); refine goesL_ (some 55) rfl rfl Try.func21 (by kernel_rfl) rfl #[.slice Ao7 t577.length co7] rfl (by (try simp only [List.map_toArray, List.map_cons, List.map_nil]); first | done | rfl | (simp only [List.length_drop, List.length_take]; rfl)) ?_; (with_reducible refine (spec_Healthy.calls k1 _ _ t577 t593 _ ?side1 ?side2 A28.out).mono ?_); (case side1 => exact Kd.C_up ((Kd.R_reads' HO_3.out).2.2)); (case side2 => exact (Kd.R_reads' HO_3.out).2.1); rintro e w35 ⟨v594, rfl, ho0, hb⟩; refine ⟨_, rfl, ?_⟩; have n0_ := Aside0.mk (Kd.R_below (Kd.R_up HO_3.out) hb); have n1_ := Aside0.mk (Kd.S_elder' (Kd.S_up HO_4.out) (Kd.R_base ho0) hb); have n2_ := Aside0.mk (Kd.R_elder' (Kd.R_up HO592.out) (Kd.R_base ho0) hb); have n3_ := Aside0.mk (Kd.R_lower (Kd.R_new' ho0 (Kd.R_lt (Kd.R_up HO592.out))) (below_size (below_up HB.out))); have n4_ := Aside0.mk (below_step (below_up HB.out) hb); replace HO_3 := n0_; replace HO_4 := n1_; replace HO592 := n2_; have HO595 := n3_; replace HB := n4_; clear n0_ n1_ n2_ n3_ n4_; (try clear hb); (try clear hb2); (try clear hk); (try clear hi); (try clear ho0); obtain ⟨Ao36, co36, eo36⟩ := Kd.R_slice HO595.out; subst eo36) | ((with_reducible refine gate_callee (f := 20) rfl ?_); refine goesL_ (some 59) rfl rfl Try.func20 (by kernel_rfl) rfl #[.slice Ao7 t577.length co7] rfl (by (try simp only [List.map_toArray, List.map_cons, List.map_nil]); first | done | rfl | (simp only [List.length_drop, List.length_take]; rfl)) ?_; (with_reducible refine (impl_Healthy.calls k1 _ _ t577 t596 _ ?side1 ?side2 A30.out).mono ?_); (case side1 => exact Kd.C_up ((Kd.R_reads' HO_3.out).2.2)); (case side2 => exact (Kd.R_reads' HO_3.out).2.1); rintro e w37 ⟨v597, rfl, ho0, hb⟩; refine ⟨_, rfl, ?_⟩; have n0_ := Aside0.mk (Kd.R_below (Kd.R_up HO_3.out) hb); have n1_ := Aside0.mk (Kd.S_elder' (Kd.S_up HO_4.out) (Kd.R_base ho0) hb); have n2_ := Aside0.mk (Kd.R_elder' (Kd.R_up HO592.out) (Kd.R_base ho0) hb); have n3_ := Aside0.mk (Kd.R_elder' (Kd.R_up HO595.out) (Kd.R_base ho0) hb); have n4_ := Aside0.mk (Kd.R_lower (Kd.R_new' (Kd.R_new' ho0 (Kd.R_lt (Kd.R_up HO592.out))) (Kd.R_lt (Kd.R_up HO595.out))) (below_size (below_up HB.out))); have n5_ := Aside0.mk (below_step (below_up HB.out) hb); replace HO_3 := n0_; replace HO_4 := n1_; replace HO592 := n2_; replace HO595 := n3_; have HO598 := n4_; replace HB := n5_; clear n0_ n1_ n2_ n3_ n4_ n5_; (try clear hb); (try clear hb2); (try clear hk); (try clear hi); (try clear ho0); obtain ⟨Ao38, co38, eo38⟩ := Kd.R_slice HO598.out; subst eo38))
   (try simp only [Act.put, List.setIfInBounds_toArray, List.set_cons_zero, List.set_cons_succ])
   go_cut [97] (fun v97 wc => ∃ (kq : Nat) (x97_30 : Bool), v97 = .bool x97_30 ∧ Aside0 (laws_FnRopes.j1 kq l0 x97_30 = some true) ∧ Aside0 (kq ≤ k1) ∧ Aside0 (Below w.heap.size w wc))
   case first =>
    have H := HC31.out
    clear HC31
    replace H := Option.bind_eq_some_iff.mp H
    obtain ⟨t599, A390, H⟩ := H
    have A39 := Aside0.mk A390
    clear A390
    by_cases c40 : (t599 != (decide ((t580.length : Int) > 0))) = true
    · rw [if_pos c40] at H
      have c40b0 : (t599 != (decide ((t580.length : Int) > 0))) = true := c40
      (try (have c40b1 : decide (t599 = (decide ((t580.length : Int) > 0))) = false := by simpa using c40))
      (try (have c40b2 : (t599 == (decide ((t580.length : Int) > 0))) = false := by simpa using c40))
      (try (have c40b3 : ¬ (t599 = (decide ((t580.length : Int) > 0))) := by simpa using c40))
      have c40b7 : (t599 = decide (0 < t580.length)) = False := eq_false (by simpa using c40)
      clear c40
      (first | rw [c40b0] | (simp only [i64_w, i32_w]; rw [c40b0]) | skip)
      have H' := Aside0.mk H
      clear H
      go_wp2_with (first | ((with_reducible refine gate_callee (f := 22) rfl ?_); refine goesL_ (some 62) rfl rfl Try.func22 (by kernel_rfl) rfl #[.slice Ao7 t577.length co7] rfl (by (try simp only [List.map_toArray, List.map_cons, List.map_nil]); first | done | rfl | (simp only [List.length_drop, List.length_take]; rfl)) ?_; (with_reducible refine (impl_CanRope.calls k1 _ _ t577 t599 _ ?side1 ?side2 A39.out).mono ?_); (case side1 => exact Kd.C_up ((Kd.R_reads' HO_3.out).2.2)); (case side2 => exact (Kd.R_reads' HO_3.out).2.1); rintro e w41 ⟨rfl, hb⟩; refine ⟨_, rfl, ?_⟩; have n0_ := Aside0.mk (Kd.R_below (Kd.R_up HO_3.out) hb); have n1_ := Aside0.mk (Kd.S_below (Kd.S_up HO_4.out) hb); have n2_ := Aside0.mk (Kd.R_below (Kd.R_up HO592.out) hb); have n3_ := Aside0.mk (Kd.R_below (Kd.R_up HO595.out) hb); have n4_ := Aside0.mk (Kd.R_below (Kd.R_up HO598.out) hb); have n5_ := Aside0.mk (below_step (below_up HB.out) hb); replace HO_3 := n0_; replace HO_4 := n1_; replace HO592 := n2_; replace HO595 := n3_; replace HO598 := n4_; replace HB := n5_; clear n0_ n1_ n2_ n3_ n4_ n5_; (try clear hb); (try clear hb2); (try clear hk); (try clear hi)))
      go_meet
      case rel => exact ⟨_, (true), (by first | rfl | (simp; done) | (simp [*]; done)), H', ⟨by have := HK1.out; first | omega | exact Nat.le_refl _⟩, ⟨below_up HB.out⟩⟩
    rw [if_neg c40] at H
    have c40b0 : (t599 != (decide ((t580.length : Int) > 0))) = false := by simpa using c40
    (try (have c40b1 : decide (t599 = (decide ((t580.length : Int) > 0))) = true := by simpa using c40))
    (try (have c40b2 : (t599 == (decide ((t580.length : Int) > 0))) = true := by simpa using c40))
    have c40b7 : (t599 = decide (0 < t580.length)) = True := eq_true (by simpa using c40)
    clear c40
    (first | rw [c40b0] | (simp only [i64_w, i32_w]; rw [c40b0]) | skip)
    replace H := Option.bind_eq_some_iff.mp H
    obtain ⟨t600, A420, H⟩ := H
    have A42 := Aside0.mk A420
    clear A420
    by_cases c43 : t600 = true
    rotate_left
    · replace c43 := Bool.eq_false_iff.mpr c43
      subst c43
      rw [if_neg (show ¬ (false = true) by decide)] at H
      by_cases c80 : (t580.length : Int) > 0
      rotate_left
      · rw [if_neg c80] at H
        have c80b0 : decide (0 < (t580.length : Int)) = false := decide_eq_false c80
        have c80b1 : decide (0 < t580.length) = false := decide_eq_false (by omega); obtain rfl : t599 = false := (of_eq_true c40b7).trans c80b1
        clear c80
        replace H := Option.bind_eq_some_iff.mp H
        obtain ⟨t608, A950, H⟩ := H
        have A95 := Aside0.mk A950
        clear A950; obtain rfl : t608 = false := Option.some.inj (A95.out.symm.trans A39.out)
        replace H := Option.bind_eq_some_iff.mp H
        obtain ⟨t609, A960, H⟩ := H
        have A96 := Aside0.mk A960
        clear A960
        by_cases c97 : t609 = true
        · subst c97
          exact absurd (A42.out.symm.trans A96.out) (by simp)
        replace c97 := Bool.eq_false_iff.mpr c97
        subst c97
        rw [if_neg (show ¬ (false = true) by decide)] at H
        have H' := Aside0.mk H
        clear H
        go_wp2_with (first | ((with_reducible refine gate_callee (f := 22) rfl ?_); refine goesL_ (some 62) rfl rfl Try.func22 (by kernel_rfl) rfl #[.slice Ao7 t577.length co7] rfl (by (try simp only [List.map_toArray, List.map_cons, List.map_nil]); first | done | rfl | (simp only [List.length_drop, List.length_take]; rfl)) ?_; (with_reducible refine (impl_CanRope.calls k1 _ _ t577 false _ ?side1 ?side2 A39.out).mono ?_); (case side1 => exact Kd.C_up ((Kd.R_reads' HO_3.out).2.2)); (case side2 => exact (Kd.R_reads' HO_3.out).2.1); rintro e w102 ⟨rfl, hb⟩; refine ⟨_, rfl, ?_⟩; have n0_ := Aside0.mk (Kd.R_below (Kd.R_up HO_3.out) hb); have n1_ := Aside0.mk (Kd.S_below (Kd.S_up HO_4.out) hb); have n2_ := Aside0.mk (Kd.R_below (Kd.R_up HO592.out) hb); have n3_ := Aside0.mk (Kd.R_below (Kd.R_up HO595.out) hb); have n4_ := Aside0.mk (Kd.R_below (Kd.R_up HO598.out) hb); have n5_ := Aside0.mk (below_step (below_up HB.out) hb); replace HO_3 := n0_; replace HO_4 := n1_; replace HO592 := n2_; replace HO595 := n3_; replace HO598 := n4_; replace HB := n5_; clear n0_ n1_ n2_ n3_ n4_ n5_; (try clear hb); (try clear hb2); (try clear hk); (try clear hi)) | (go_at_call 23; (with_reducible refine (impl_AreCrew.calls k1 _ _ t577 false _ ?side1 ?side2 A42.out).mono ?_); (case side1 => exact Kd.C_up ((Kd.R_reads' HO_3.out).2.2)); (case side2 => exact (Kd.R_reads' HO_3.out).2.1); rintro e w103 ⟨rfl, hb⟩; have n0_ := Aside0.mk (Kd.R_below (Kd.R_up HO_3.out) hb); have n1_ := Aside0.mk (Kd.S_below (Kd.S_up HO_4.out) hb); have n2_ := Aside0.mk (Kd.R_below (Kd.R_up HO592.out) hb); have n3_ := Aside0.mk (Kd.R_below (Kd.R_up HO595.out) hb); have n4_ := Aside0.mk (Kd.R_below (Kd.R_up HO598.out) hb); have n5_ := Aside0.mk (below_step (below_up HB.out) hb); replace HO_3 := n0_; replace HO_4 := n1_; replace HO592 := n2_; replace HO595 := n3_; replace HO598 := n4_; replace HB := n5_; clear n0_ n1_ n2_ n3_ n4_ n5_; (try clear hb); (try clear hb2); (try clear hk); (try clear hi)) | (go_at_call 22; (with_reducible refine (impl_CanRope.calls k1 _ _ t577 false _ ?side1 ?side2 A95.out).mono ?_); (case side1 => exact Kd.C_up ((Kd.R_reads' HO_3.out).2.2)); (case side2 => exact (Kd.R_reads' HO_3.out).2.1); rintro e w104 ⟨rfl, hb⟩; have n0_ := Aside0.mk (Kd.R_below (Kd.R_up HO_3.out) hb); have n1_ := Aside0.mk (Kd.S_below (Kd.S_up HO_4.out) hb); have n2_ := Aside0.mk (Kd.R_below (Kd.R_up HO592.out) hb); have n3_ := Aside0.mk (Kd.R_below (Kd.R_up HO595.out) hb); have n4_ := Aside0.mk (Kd.R_below (Kd.R_up HO598.out) hb); have n5_ := Aside0.mk (below_step (below_up HB.out) hb); replace HO_3 := n0_; replace HO_4 := n1_; replace HO592 := n2_; replace HO595 := n3_; replace HO598 := n4_; replace HB := n5_; clear n0_ n1_ n2_ n3_ n4_ n5_; (try clear hb); (try clear hb2); (try clear hk); (try clear hi)) | (go_at_call 23; (with_reducible refine (impl_AreCrew.calls k1 _ _ t577 false _ ?side1 ?side2 A96.out).mono ?_); (case side1 => exact Kd.C_up ((Kd.R_reads' HO_3.out).2.2)); (case side2 => exact (Kd.R_reads' HO_3.out).2.1); rintro e w105 ⟨rfl, hb⟩; have n0_ := Aside0.mk (Kd.R_below (Kd.R_up HO_3.out) hb); have n1_ := Aside0.mk (Kd.S_below (Kd.S_up HO_4.out) hb); have n2_ := Aside0.mk (Kd.R_below (Kd.R_up HO592.out) hb); have n3_ := Aside0.mk (Kd.R_below (Kd.R_up HO595.out) hb); have n4_ := Aside0.mk (Kd.R_below (Kd.R_up HO598.out) hb); have n5_ := Aside0.mk (below_step (below_up HB.out) hb); replace HO_3 := n0_; replace HO_4 := n1_; replace HO592 := n2_; replace HO595 := n3_; replace HO598 := n4_; replace HB := n5_; clear n0_ n1_ n2_ n3_ n4_ n5_; (try clear hb); (try clear hb2); (try clear hk); (try clear hi)))
        go_meet
        case rel => exact ⟨_, ((false != false)), (by first | rfl | (simp; done) | (simp [*]; done)), H', ⟨by have := HK1.out; first | omega | exact Nat.le_refl _⟩, ⟨below_up HB.out⟩⟩
      rw [if_pos c80] at H
      have c80b0 : decide (0 < (t580.length : Int)) = true := decide_eq_true c80
      have c80b1 : decide (0 < t580.length) = true := decide_eq_true (by omega); obtain rfl : t599 = true := (of_eq_true c40b7).trans c80b1
      clear c80
      by_cases c81 : x5_1 = (t596.length : Int)
      rotate_left
      · rw [if_neg c81] at H
        have c81b0 : (x5_1 == (t596.length : Int)) = false := beq_eq_false_iff_ne.mpr c81
        have c81b1 : (x5_1 != (t596.length : Int)) = true := bne_iff_ne.mpr c81
        have H' := Aside0.mk H
        clear H
        go_wp2_with (first | ((with_reducible refine gate_callee (f := 22) rfl ?_); refine goesL_ (some 62) rfl rfl Try.func22 (by kernel_rfl) rfl #[.slice Ao7 t577.length co7] rfl (by (try simp only [List.map_toArray, List.map_cons, List.map_nil]); first | done | rfl | (simp only [List.length_drop, List.length_take]; rfl)) ?_; (with_reducible refine (impl_CanRope.calls k1 _ _ t577 true _ ?side1 ?side2 A39.out).mono ?_); (case side1 => exact Kd.C_up ((Kd.R_reads' HO_3.out).2.2)); (case side2 => exact (Kd.R_reads' HO_3.out).2.1); rintro e w93 ⟨rfl, hb⟩; refine ⟨_, rfl, ?_⟩; have n0_ := Aside0.mk (Kd.R_below (Kd.R_up HO_3.out) hb); have n1_ := Aside0.mk (Kd.S_below (Kd.S_up HO_4.out) hb); have n2_ := Aside0.mk (Kd.R_below (Kd.R_up HO592.out) hb); have n3_ := Aside0.mk (Kd.R_below (Kd.R_up HO595.out) hb); have n4_ := Aside0.mk (Kd.R_below (Kd.R_up HO598.out) hb); have n5_ := Aside0.mk (below_step (below_up HB.out) hb); replace HO_3 := n0_; replace HO_4 := n1_; replace HO592 := n2_; replace HO595 := n3_; replace HO598 := n4_; replace HB := n5_; clear n0_ n1_ n2_ n3_ n4_ n5_; (try clear hb); (try clear hb2); (try clear hk); (try clear hi)) | (go_at_call 23; (with_reducible refine (impl_AreCrew.calls k1 _ _ t577 false _ ?side1 ?side2 A42.out).mono ?_); (case side1 => exact Kd.C_up ((Kd.R_reads' HO_3.out).2.2)); (case side2 => exact (Kd.R_reads' HO_3.out).2.1); rintro e w94 ⟨rfl, hb⟩; have n0_ := Aside0.mk (Kd.R_below (Kd.R_up HO_3.out) hb); have n1_ := Aside0.mk (Kd.S_below (Kd.S_up HO_4.out) hb); have n2_ := Aside0.mk (Kd.R_below (Kd.R_up HO592.out) hb); have n3_ := Aside0.mk (Kd.R_below (Kd.R_up HO595.out) hb); have n4_ := Aside0.mk (Kd.R_below (Kd.R_up HO598.out) hb); have n5_ := Aside0.mk (below_step (below_up HB.out) hb); replace HO_3 := n0_; replace HO_4 := n1_; replace HO592 := n2_; replace HO595 := n3_; replace HO598 := n4_; replace HB := n5_; clear n0_ n1_ n2_ n3_ n4_ n5_; (try clear hb); (try clear hb2); (try clear hk); (try clear hi)))
        go_meet
        case rel => exact ⟨_, (true), (by first | rfl | (simp; done) | (simp [*]; done)), H', ⟨by have := HK1.out; first | omega | exact Nat.le_refl _⟩, ⟨below_up HB.out⟩⟩
      rw [if_pos c81] at H
      have c81b0 : (x5_1 == (t596.length : Int)) = true := beq_iff_eq.mpr c81
      have c81b1 : (x5_1 != (t596.length : Int)) = false := bne_eq_false_iff_eq.mpr c81
      clear c81
      replace H := Option.bind_eq_some_iff.mp H
      obtain ⟨t606, A820, H⟩ := H
      have A82 := Aside0.mk A820
      clear A820; obtain rfl : t606 = true := Option.some.inj (A82.out.symm.trans A39.out)
      replace H := Option.bind_eq_some_iff.mp H
      obtain ⟨t607, A830, H⟩ := H
      have A83 := Aside0.mk A830
      clear A830
      by_cases c84 : t607 = true
      · subst c84
        exact absurd (A42.out.symm.trans A83.out) (by simp)
      replace c84 := Bool.eq_false_iff.mpr c84
      subst c84
      rw [if_neg (show ¬ (false = true) by decide)] at H
      have H' := Aside0.mk H
      clear H
      go_wp2_with (first | ((with_reducible refine gate_callee (f := 22) rfl ?_); refine goesL_ (some 62) rfl rfl Try.func22 (by kernel_rfl) rfl #[.slice Ao7 t577.length co7] rfl (by (try simp only [List.map_toArray, List.map_cons, List.map_nil]); first | done | rfl | (simp only [List.length_drop, List.length_take]; rfl)) ?_; (with_reducible refine (impl_CanRope.calls k1 _ _ t577 true _ ?side1 ?side2 A39.out).mono ?_); (case side1 => exact Kd.C_up ((Kd.R_reads' HO_3.out).2.2)); (case side2 => exact (Kd.R_reads' HO_3.out).2.1); rintro e w89 ⟨rfl, hb⟩; refine ⟨_, rfl, ?_⟩; have n0_ := Aside0.mk (Kd.R_below (Kd.R_up HO_3.out) hb); have n1_ := Aside0.mk (Kd.S_below (Kd.S_up HO_4.out) hb); have n2_ := Aside0.mk (Kd.R_below (Kd.R_up HO592.out) hb); have n3_ := Aside0.mk (Kd.R_below (Kd.R_up HO595.out) hb); have n4_ := Aside0.mk (Kd.R_below (Kd.R_up HO598.out) hb); have n5_ := Aside0.mk (below_step (below_up HB.out) hb); replace HO_3 := n0_; replace HO_4 := n1_; replace HO592 := n2_; replace HO595 := n3_; replace HO598 := n4_; replace HB := n5_; clear n0_ n1_ n2_ n3_ n4_ n5_; (try clear hb); (try clear hb2); (try clear hk); (try clear hi)) | (go_at_call 23; (with_reducible refine (impl_AreCrew.calls k1 _ _ t577 false _ ?side1 ?side2 A42.out).mono ?_); (case side1 => exact Kd.C_up ((Kd.R_reads' HO_3.out).2.2)); (case side2 => exact (Kd.R_reads' HO_3.out).2.1); rintro e w90 ⟨rfl, hb⟩; have n0_ := Aside0.mk (Kd.R_below (Kd.R_up HO_3.out) hb); have n1_ := Aside0.mk (Kd.S_below (Kd.S_up HO_4.out) hb); have n2_ := Aside0.mk (Kd.R_below (Kd.R_up HO592.out) hb); have n3_ := Aside0.mk (Kd.R_below (Kd.R_up HO595.out) hb); have n4_ := Aside0.mk (Kd.R_below (Kd.R_up HO598.out) hb); have n5_ := Aside0.mk (below_step (below_up HB.out) hb); replace HO_3 := n0_; replace HO_4 := n1_; replace HO592 := n2_; replace HO595 := n3_; replace HO598 := n4_; replace HB := n5_; clear n0_ n1_ n2_ n3_ n4_ n5_; (try clear hb); (try clear hb2); (try clear hk); (try clear hi)) | (go_at_call 22; (with_reducible refine (impl_CanRope.calls k1 _ _ t577 true _ ?side1 ?side2 A82.out).mono ?_); (case side1 => exact Kd.C_up ((Kd.R_reads' HO_3.out).2.2)); (case side2 => exact (Kd.R_reads' HO_3.out).2.1); rintro e w91 ⟨rfl, hb⟩; have n0_ := Aside0.mk (Kd.R_below (Kd.R_up HO_3.out) hb); have n1_ := Aside0.mk (Kd.S_below (Kd.S_up HO_4.out) hb); have n2_ := Aside0.mk (Kd.R_below (Kd.R_up HO592.out) hb); have n3_ := Aside0.mk (Kd.R_below (Kd.R_up HO595.out) hb); have n4_ := Aside0.mk (Kd.R_below (Kd.R_up HO598.out) hb); have n5_ := Aside0.mk (below_step (below_up HB.out) hb); replace HO_3 := n0_; replace HO_4 := n1_; replace HO592 := n2_; replace HO595 := n3_; replace HO598 := n4_; replace HB := n5_; clear n0_ n1_ n2_ n3_ n4_ n5_; (try clear hb); (try clear hb2); (try clear hk); (try clear hi)) | (go_at_call 23; (with_reducible refine (impl_AreCrew.calls k1 _ _ t577 false _ ?side1 ?side2 A83.out).mono ?_); (case side1 => exact Kd.C_up ((Kd.R_reads' HO_3.out).2.2)); (case side2 => exact (Kd.R_reads' HO_3.out).2.1); rintro e w92 ⟨rfl, hb⟩; have n0_ := Aside0.mk (Kd.R_below (Kd.R_up HO_3.out) hb); have n1_ := Aside0.mk (Kd.S_below (Kd.S_up HO_4.out) hb); have n2_ := Aside0.mk (Kd.R_below (Kd.R_up HO592.out) hb); have n3_ := Aside0.mk (Kd.R_below (Kd.R_up HO595.out) hb); have n4_ := Aside0.mk (Kd.R_below (Kd.R_up HO598.out) hb); have n5_ := Aside0.mk (below_step (below_up HB.out) hb); replace HO_3 := n0_; replace HO_4 := n1_; replace HO592 := n2_; replace HO595 := n3_; replace HO598 := n4_; replace HB := n5_; clear n0_ n1_ n2_ n3_ n4_ n5_; (try clear hb); (try clear hb2); (try clear hk); (try clear hi)))
      go_meet
      case rel => exact ⟨_, ((true != false)), (by first | rfl | (simp; done) | (simp [*]; done)), H', ⟨by have := HK1.out; first | omega | exact Nat.le_refl _⟩, ⟨below_up HB.out⟩⟩
    subst c43
    rw [if_pos rfl] at H
    replace H := Option.bind_eq_some_iff.mp H
    obtain ⟨t601, A440, H⟩ := H
    have A44 := Aside0.mk A440
    clear A440
    by_cases c45 : t601 = true
    rotate_left
    · replace c45 := Bool.eq_false_iff.mpr c45
      subst c45
      rw [if_neg (show ¬ (false = true) by decide)] at H
      have H' := Aside0.mk H
      clear H
      go_wp2_with (first | ((with_reducible refine gate_callee (f := 22) rfl ?_); refine goesL_ (some 62) rfl rfl Try.func22 (by kernel_rfl) rfl #[.slice Ao7 t577.length co7] rfl (by (try simp only [List.map_toArray, List.map_cons, List.map_nil]); first | done | rfl | (simp only [List.length_drop, List.length_take]; rfl)) ?_; (with_reducible refine (impl_CanRope.calls k1 _ _ t577 t599 _ ?side1 ?side2 A39.out).mono ?_); (case side1 => exact Kd.C_up ((Kd.R_reads' HO_3.out).2.2)); (case side2 => exact (Kd.R_reads' HO_3.out).2.1); rintro e w77 ⟨rfl, hb⟩; refine ⟨_, rfl, ?_⟩; have n0_ := Aside0.mk (Kd.R_below (Kd.R_up HO_3.out) hb); have n1_ := Aside0.mk (Kd.S_below (Kd.S_up HO_4.out) hb); have n2_ := Aside0.mk (Kd.R_below (Kd.R_up HO592.out) hb); have n3_ := Aside0.mk (Kd.R_below (Kd.R_up HO595.out) hb); have n4_ := Aside0.mk (Kd.R_below (Kd.R_up HO598.out) hb); have n5_ := Aside0.mk (below_step (below_up HB.out) hb); replace HO_3 := n0_; replace HO_4 := n1_; replace HO592 := n2_; replace HO595 := n3_; replace HO598 := n4_; replace HB := n5_; clear n0_ n1_ n2_ n3_ n4_ n5_; (try clear hb); (try clear hb2); (try clear hk); (try clear hi)) | (go_at_call 23; (with_reducible refine (impl_AreCrew.calls k1 _ _ t577 true _ ?side1 ?side2 A42.out).mono ?_); (case side1 => exact Kd.C_up ((Kd.R_reads' HO_3.out).2.2)); (case side2 => exact (Kd.R_reads' HO_3.out).2.1); rintro e w78 ⟨rfl, hb⟩; have n0_ := Aside0.mk (Kd.R_below (Kd.R_up HO_3.out) hb); have n1_ := Aside0.mk (Kd.S_below (Kd.S_up HO_4.out) hb); have n2_ := Aside0.mk (Kd.R_below (Kd.R_up HO592.out) hb); have n3_ := Aside0.mk (Kd.R_below (Kd.R_up HO595.out) hb); have n4_ := Aside0.mk (Kd.R_below (Kd.R_up HO598.out) hb); have n5_ := Aside0.mk (below_step (below_up HB.out) hb); replace HO_3 := n0_; replace HO_4 := n1_; replace HO592 := n2_; replace HO595 := n3_; replace HO598 := n4_; replace HB := n5_; clear n0_ n1_ n2_ n3_ n4_ n5_; (try clear hb); (try clear hb2); (try clear hk); (try clear hi)) | (go_at_call 24; (with_reducible refine (impl_AreRoped.calls k1 _ _ t577 _ _ t580 false _ ?side1 ?side2 ?side3 ?side4 A44.out).mono ?_); (case side1 => exact Kd.C_up ((Kd.R_reads' HO_3.out).2.2)); (case side2 => exact (Kd.R_reads' HO_3.out).2.1); (case side3 => exact Kd.C_up ((Kd.S_reads' HO_4.out).2.2)); (case side4 => exact (Kd.S_reads' HO_4.out).2.1); rintro e w79 ⟨rfl, hb⟩; have n0_ := Aside0.mk (Kd.R_below (Kd.R_up HO_3.out) hb); have n1_ := Aside0.mk (Kd.S_below (Kd.S_up HO_4.out) hb); have n2_ := Aside0.mk (Kd.R_below (Kd.R_up HO592.out) hb); have n3_ := Aside0.mk (Kd.R_below (Kd.R_up HO595.out) hb); have n4_ := Aside0.mk (Kd.R_below (Kd.R_up HO598.out) hb); have n5_ := Aside0.mk (below_step (below_up HB.out) hb); replace HO_3 := n0_; replace HO_4 := n1_; replace HO592 := n2_; replace HO595 := n3_; replace HO598 := n4_; replace HB := n5_; clear n0_ n1_ n2_ n3_ n4_ n5_; (try clear hb); (try clear hb2); (try clear hk); (try clear hi)))
      go_meet
      case rel => exact ⟨_, (true), (by first | rfl | (simp; done) | (simp [*]; done)), H', ⟨by have := HK1.out; first | omega | exact Nat.le_refl _⟩, ⟨below_up HB.out⟩⟩
    subst c45
    rw [if_pos rfl] at H
    by_cases c46 : (t580.length : Int) > 0
    rotate_left
    · rw [if_neg c46] at H
      have c46b0 : decide (0 < (t580.length : Int)) = false := decide_eq_false c46
      have c46b1 : decide (0 < t580.length) = false := decide_eq_false (by omega); obtain rfl : t599 = false := (of_eq_true c40b7).trans c46b1
      clear c46
      replace H := Option.bind_eq_some_iff.mp H
      obtain ⟨t604, A640, H⟩ := H
      have A64 := Aside0.mk A640
      clear A640; obtain rfl : t604 = false := Option.some.inj (A64.out.symm.trans A39.out)
      replace H := Option.bind_eq_some_iff.mp H
      obtain ⟨t605, A650, H⟩ := H
      have A65 := Aside0.mk A650
      clear A650
      by_cases c66 : t605 = true
      · subst c66
        rw [if_pos rfl] at H
        have H' := Aside0.mk H
        clear H
        go_wp2_with (first | ((with_reducible refine gate_callee (f := 22) rfl ?_); refine goesL_ (some 62) rfl rfl Try.func22 (by kernel_rfl) rfl #[.slice Ao7 t577.length co7] rfl (by (try simp only [List.map_toArray, List.map_cons, List.map_nil]); first | done | rfl | (simp only [List.length_drop, List.length_take]; rfl)) ?_; (with_reducible refine (impl_CanRope.calls k1 _ _ t577 false _ ?side1 ?side2 A39.out).mono ?_); (case side1 => exact Kd.C_up ((Kd.R_reads' HO_3.out).2.2)); (case side2 => exact (Kd.R_reads' HO_3.out).2.1); rintro e w67 ⟨rfl, hb⟩; refine ⟨_, rfl, ?_⟩; have n0_ := Aside0.mk (Kd.R_below (Kd.R_up HO_3.out) hb); have n1_ := Aside0.mk (Kd.S_below (Kd.S_up HO_4.out) hb); have n2_ := Aside0.mk (Kd.R_below (Kd.R_up HO592.out) hb); have n3_ := Aside0.mk (Kd.R_below (Kd.R_up HO595.out) hb); have n4_ := Aside0.mk (Kd.R_below (Kd.R_up HO598.out) hb); have n5_ := Aside0.mk (below_step (below_up HB.out) hb); replace HO_3 := n0_; replace HO_4 := n1_; replace HO592 := n2_; replace HO595 := n3_; replace HO598 := n4_; replace HB := n5_; clear n0_ n1_ n2_ n3_ n4_ n5_; (try clear hb); (try clear hb2); (try clear hk); (try clear hi)) | (go_at_call 23; (with_reducible refine (impl_AreCrew.calls k1 _ _ t577 true _ ?side1 ?side2 A42.out).mono ?_); (case side1 => exact Kd.C_up ((Kd.R_reads' HO_3.out).2.2)); (case side2 => exact (Kd.R_reads' HO_3.out).2.1); rintro e w68 ⟨rfl, hb⟩; have n0_ := Aside0.mk (Kd.R_below (Kd.R_up HO_3.out) hb); have n1_ := Aside0.mk (Kd.S_below (Kd.S_up HO_4.out) hb); have n2_ := Aside0.mk (Kd.R_below (Kd.R_up HO592.out) hb); have n3_ := Aside0.mk (Kd.R_below (Kd.R_up HO595.out) hb); have n4_ := Aside0.mk (Kd.R_below (Kd.R_up HO598.out) hb); have n5_ := Aside0.mk (below_step (below_up HB.out) hb); replace HO_3 := n0_; replace HO_4 := n1_; replace HO592 := n2_; replace HO595 := n3_; replace HO598 := n4_; replace HB := n5_; clear n0_ n1_ n2_ n3_ n4_ n5_; (try clear hb); (try clear hb2); (try clear hk); (try clear hi)) | (go_at_call 24; (with_reducible refine (impl_AreRoped.calls k1 _ _ t577 _ _ t580 true _ ?side1 ?side2 ?side3 ?side4 A44.out).mono ?_); (case side1 => exact Kd.C_up ((Kd.R_reads' HO_3.out).2.2)); (case side2 => exact (Kd.R_reads' HO_3.out).2.1); (case side3 => exact Kd.C_up ((Kd.S_reads' HO_4.out).2.2)); (case side4 => exact (Kd.S_reads' HO_4.out).2.1); rintro e w69 ⟨rfl, hb⟩; have n0_ := Aside0.mk (Kd.R_below (Kd.R_up HO_3.out) hb); have n1_ := Aside0.mk (Kd.S_below (Kd.S_up HO_4.out) hb); have n2_ := Aside0.mk (Kd.R_below (Kd.R_up HO592.out) hb); have n3_ := Aside0.mk (Kd.R_below (Kd.R_up HO595.out) hb); have n4_ := Aside0.mk (Kd.R_below (Kd.R_up HO598.out) hb); have n5_ := Aside0.mk (below_step (below_up HB.out) hb); replace HO_3 := n0_; replace HO_4 := n1_; replace HO592 := n2_; replace HO595 := n3_; replace HO598 := n4_; replace HB := n5_; clear n0_ n1_ n2_ n3_ n4_ n5_; (try clear hb); (try clear hb2); (try clear hk); (try clear hi)) | (go_at_call 22; (with_reducible refine (impl_CanRope.calls k1 _ _ t577 false _ ?side1 ?side2 A64.out).mono ?_); (case side1 => exact Kd.C_up ((Kd.R_reads' HO_3.out).2.2)); (case side2 => exact (Kd.R_reads' HO_3.out).2.1); rintro e w70 ⟨rfl, hb⟩; have n0_ := Aside0.mk (Kd.R_below (Kd.R_up HO_3.out) hb); have n1_ := Aside0.mk (Kd.S_below (Kd.S_up HO_4.out) hb); have n2_ := Aside0.mk (Kd.R_below (Kd.R_up HO592.out) hb); have n3_ := Aside0.mk (Kd.R_below (Kd.R_up HO595.out) hb); have n4_ := Aside0.mk (Kd.R_below (Kd.R_up HO598.out) hb); have n5_ := Aside0.mk (below_step (below_up HB.out) hb); replace HO_3 := n0_; replace HO_4 := n1_; replace HO592 := n2_; replace HO595 := n3_; replace HO598 := n4_; replace HB := n5_; clear n0_ n1_ n2_ n3_ n4_ n5_; (try clear hb); (try clear hb2); (try clear hk); (try clear hi)) | (go_at_call 23; (with_reducible refine (impl_AreCrew.calls k1 _ _ t577 true _ ?side1 ?side2 A65.out).mono ?_); (case side1 => exact Kd.C_up ((Kd.R_reads' HO_3.out).2.2)); (case side2 => exact (Kd.R_reads' HO_3.out).2.1); rintro e w71 ⟨rfl, hb⟩; have n0_ := Aside0.mk (Kd.R_below (Kd.R_up HO_3.out) hb); have n1_ := Aside0.mk (Kd.S_below (Kd.S_up HO_4.out) hb); have n2_ := Aside0.mk (Kd.R_below (Kd.R_up HO592.out) hb); have n3_ := Aside0.mk (Kd.R_below (Kd.R_up HO595.out) hb); have n4_ := Aside0.mk (Kd.R_below (Kd.R_up HO598.out) hb); have n5_ := Aside0.mk (below_step (below_up HB.out) hb); replace HO_3 := n0_; replace HO_4 := n1_; replace HO592 := n2_; replace HO595 := n3_; replace HO598 := n4_; replace HB := n5_; clear n0_ n1_ n2_ n3_ n4_ n5_; (try clear hb); (try clear hb2); (try clear hk); (try clear hi)))
        go_meet
        case rel => exact ⟨_, ((false != (decide ((t596.length : Int) ≥ 2)))), (by first | rfl | (simp; done) | (simp [*]; done)), H', ⟨by have := HK1.out; first | omega | exact Nat.le_refl _⟩, ⟨below_up HB.out⟩⟩
      replace c66 := Bool.eq_false_iff.mpr c66
      subst c66
      exact absurd (A42.out.symm.trans A65.out) (by simp)
    rw [if_pos c46] at H
    have c46b0 : decide (0 < (t580.length : Int)) = true := decide_eq_true c46
    have c46b1 : decide (0 < t580.length) = true := decide_eq_true (by omega); obtain rfl : t599 = true := (of_eq_true c40b7).trans c46b1
    clear c46
    by_cases c47 : x5_1 = (t596.length : Int)
    rotate_left
    · rw [if_neg c47] at H
      have c47b0 : (x5_1 == (t596.length : Int)) = false := beq_eq_false_iff_ne.mpr c47
      have c47b1 : (x5_1 != (t596.length : Int)) = true := bne_iff_ne.mpr c47
      have H' := Aside0.mk H
      clear H
      go_wp2_with (first | ((with_reducible refine gate_callee (f := 22) rfl ?_); refine goesL_ (some 62) rfl rfl Try.func22 (by kernel_rfl) rfl #[.slice Ao7 t577.length co7] rfl (by (try simp only [List.map_toArray, List.map_cons, List.map_nil]); first | done | rfl | (simp only [List.length_drop, List.length_take]; rfl)) ?_; (with_reducible refine (impl_CanRope.calls k1 _ _ t577 true _ ?side1 ?side2 A39.out).mono ?_); (case side1 => exact Kd.C_up ((Kd.R_reads' HO_3.out).2.2)); (case side2 => exact (Kd.R_reads' HO_3.out).2.1); rintro e w61 ⟨rfl, hb⟩; refine ⟨_, rfl, ?_⟩; have n0_ := Aside0.mk (Kd.R_below (Kd.R_up HO_3.out) hb); have n1_ := Aside0.mk (Kd.S_below (Kd.S_up HO_4.out) hb); have n2_ := Aside0.mk (Kd.R_below (Kd.R_up HO592.out) hb); have n3_ := Aside0.mk (Kd.R_below (Kd.R_up HO595.out) hb); have n4_ := Aside0.mk (Kd.R_below (Kd.R_up HO598.out) hb); have n5_ := Aside0.mk (below_step (below_up HB.out) hb); replace HO_3 := n0_; replace HO_4 := n1_; replace HO592 := n2_; replace HO595 := n3_; replace HO598 := n4_; replace HB := n5_; clear n0_ n1_ n2_ n3_ n4_ n5_; (try clear hb); (try clear hb2); (try clear hk); (try clear hi)) | (go_at_call 23; (with_reducible refine (impl_AreCrew.calls k1 _ _ t577 true _ ?side1 ?side2 A42.out).mono ?_); (case side1 => exact Kd.C_up ((Kd.R_reads' HO_3.out).2.2)); (case side2 => exact (Kd.R_reads' HO_3.out).2.1); rintro e w62 ⟨rfl, hb⟩; have n0_ := Aside0.mk (Kd.R_below (Kd.R_up HO_3.out) hb); have n1_ := Aside0.mk (Kd.S_below (Kd.S_up HO_4.out) hb); have n2_ := Aside0.mk (Kd.R_below (Kd.R_up HO592.out) hb); have n3_ := Aside0.mk (Kd.R_below (Kd.R_up HO595.out) hb); have n4_ := Aside0.mk (Kd.R_below (Kd.R_up HO598.out) hb); have n5_ := Aside0.mk (below_step (below_up HB.out) hb); replace HO_3 := n0_; replace HO_4 := n1_; replace HO592 := n2_; replace HO595 := n3_; replace HO598 := n4_; replace HB := n5_; clear n0_ n1_ n2_ n3_ n4_ n5_; (try clear hb); (try clear hb2); (try clear hk); (try clear hi)) | (go_at_call 24; (with_reducible refine (impl_AreRoped.calls k1 _ _ t577 _ _ t580 true _ ?side1 ?side2 ?side3 ?side4 A44.out).mono ?_); (case side1 => exact Kd.C_up ((Kd.R_reads' HO_3.out).2.2)); (case side2 => exact (Kd.R_reads' HO_3.out).2.1); (case side3 => exact Kd.C_up ((Kd.S_reads' HO_4.out).2.2)); (case side4 => exact (Kd.S_reads' HO_4.out).2.1); rintro e w63 ⟨rfl, hb⟩; have n0_ := Aside0.mk (Kd.R_below (Kd.R_up HO_3.out) hb); have n1_ := Aside0.mk (Kd.S_below (Kd.S_up HO_4.out) hb); have n2_ := Aside0.mk (Kd.R_below (Kd.R_up HO592.out) hb); have n3_ := Aside0.mk (Kd.R_below (Kd.R_up HO595.out) hb); have n4_ := Aside0.mk (Kd.R_below (Kd.R_up HO598.out) hb); have n5_ := Aside0.mk (below_step (below_up HB.out) hb); replace HO_3 := n0_; replace HO_4 := n1_; replace HO592 := n2_; replace HO595 := n3_; replace HO598 := n4_; replace HB := n5_; clear n0_ n1_ n2_ n3_ n4_ n5_; (try clear hb); (try clear hb2); (try clear hk); (try clear hi)))
      go_meet
      case rel => exact ⟨_, (true), (by first | rfl | (simp; done) | (simp [*]; done)), H', ⟨by have := HK1.out; first | omega | exact Nat.le_refl _⟩, ⟨below_up HB.out⟩⟩
    rw [if_pos c47] at H
    have c47b0 : (x5_1 == (t596.length : Int)) = true := beq_iff_eq.mpr c47
    have c47b1 : (x5_1 != (t596.length : Int)) = false := bne_eq_false_iff_eq.mpr c47
    clear c47
    replace H := Option.bind_eq_some_iff.mp H
    obtain ⟨t602, A480, H⟩ := H
    have A48 := Aside0.mk A480
    clear A480; obtain rfl : t602 = true := Option.some.inj (A48.out.symm.trans A39.out)
    replace H := Option.bind_eq_some_iff.mp H
    obtain ⟨t603, A490, H⟩ := H
    have A49 := Aside0.mk A490
    clear A490
    by_cases c50 : t603 = true
    · subst c50
      rw [if_pos rfl] at H
      have H' := Aside0.mk H
      clear H
      go_wp2_with (first | ((with_reducible refine gate_callee (f := 22) rfl ?_); refine goesL_ (some 62) rfl rfl Try.func22 (by kernel_rfl) rfl #[.slice Ao7 t577.length co7] rfl (by (try simp only [List.map_toArray, List.map_cons, List.map_nil]); first | done | rfl | (simp only [List.length_drop, List.length_take]; rfl)) ?_; (with_reducible refine (impl_CanRope.calls k1 _ _ t577 true _ ?side1 ?side2 A39.out).mono ?_); (case side1 => exact Kd.C_up ((Kd.R_reads' HO_3.out).2.2)); (case side2 => exact (Kd.R_reads' HO_3.out).2.1); rintro e w51 ⟨rfl, hb⟩; refine ⟨_, rfl, ?_⟩; have n0_ := Aside0.mk (Kd.R_below (Kd.R_up HO_3.out) hb); have n1_ := Aside0.mk (Kd.S_below (Kd.S_up HO_4.out) hb); have n2_ := Aside0.mk (Kd.R_below (Kd.R_up HO592.out) hb); have n3_ := Aside0.mk (Kd.R_below (Kd.R_up HO595.out) hb); have n4_ := Aside0.mk (Kd.R_below (Kd.R_up HO598.out) hb); have n5_ := Aside0.mk (below_step (below_up HB.out) hb); replace HO_3 := n0_; replace HO_4 := n1_; replace HO592 := n2_; replace HO595 := n3_; replace HO598 := n4_; replace HB := n5_; clear n0_ n1_ n2_ n3_ n4_ n5_; (try clear hb); (try clear hb2); (try clear hk); (try clear hi)) | (go_at_call 23; (with_reducible refine (impl_AreCrew.calls k1 _ _ t577 true _ ?side1 ?side2 A42.out).mono ?_); (case side1 => exact Kd.C_up ((Kd.R_reads' HO_3.out).2.2)); (case side2 => exact (Kd.R_reads' HO_3.out).2.1); rintro e w52 ⟨rfl, hb⟩; have n0_ := Aside0.mk (Kd.R_below (Kd.R_up HO_3.out) hb); have n1_ := Aside0.mk (Kd.S_below (Kd.S_up HO_4.out) hb); have n2_ := Aside0.mk (Kd.R_below (Kd.R_up HO592.out) hb); have n3_ := Aside0.mk (Kd.R_below (Kd.R_up HO595.out) hb); have n4_ := Aside0.mk (Kd.R_below (Kd.R_up HO598.out) hb); have n5_ := Aside0.mk (below_step (below_up HB.out) hb); replace HO_3 := n0_; replace HO_4 := n1_; replace HO592 := n2_; replace HO595 := n3_; replace HO598 := n4_; replace HB := n5_; clear n0_ n1_ n2_ n3_ n4_ n5_; (try clear hb); (try clear hb2); (try clear hk); (try clear hi)) | (go_at_call 24; (with_reducible refine (impl_AreRoped.calls k1 _ _ t577 _ _ t580 true _ ?side1 ?side2 ?side3 ?side4 A44.out).mono ?_); (case side1 => exact Kd.C_up ((Kd.R_reads' HO_3.out).2.2)); (case side2 => exact (Kd.R_reads' HO_3.out).2.1); (case side3 => exact Kd.C_up ((Kd.S_reads' HO_4.out).2.2)); (case side4 => exact (Kd.S_reads' HO_4.out).2.1); rintro e w53 ⟨rfl, hb⟩; have n0_ := Aside0.mk (Kd.R_below (Kd.R_up HO_3.out) hb); have n1_ := Aside0.mk (Kd.S_below (Kd.S_up HO_4.out) hb); have n2_ := Aside0.mk (Kd.R_below (Kd.R_up HO592.out) hb); have n3_ := Aside0.mk (Kd.R_below (Kd.R_up HO595.out) hb); have n4_ := Aside0.mk (Kd.R_below (Kd.R_up HO598.out) hb); have n5_ := Aside0.mk (below_step (below_up HB.out) hb); replace HO_3 := n0_; replace HO_4 := n1_; replace HO592 := n2_; replace HO595 := n3_; replace HO598 := n4_; replace HB := n5_; clear n0_ n1_ n2_ n3_ n4_ n5_; (try clear hb); (try clear hb2); (try clear hk); (try clear hi)) | (go_at_call 22; (with_reducible refine (impl_CanRope.calls k1 _ _ t577 true _ ?side1 ?side2 A48.out).mono ?_); (case side1 => exact Kd.C_up ((Kd.R_reads' HO_3.out).2.2)); (case side2 => exact (Kd.R_reads' HO_3.out).2.1); rintro e w54 ⟨rfl, hb⟩; have n0_ := Aside0.mk (Kd.R_below (Kd.R_up HO_3.out) hb); have n1_ := Aside0.mk (Kd.S_below (Kd.S_up HO_4.out) hb); have n2_ := Aside0.mk (Kd.R_below (Kd.R_up HO592.out) hb); have n3_ := Aside0.mk (Kd.R_below (Kd.R_up HO595.out) hb); have n4_ := Aside0.mk (Kd.R_below (Kd.R_up HO598.out) hb); have n5_ := Aside0.mk (below_step (below_up HB.out) hb); replace HO_3 := n0_; replace HO_4 := n1_; replace HO592 := n2_; replace HO595 := n3_; replace HO598 := n4_; replace HB := n5_; clear n0_ n1_ n2_ n3_ n4_ n5_; (try clear hb); (try clear hb2); (try clear hk); (try clear hi)) | (go_at_call 23; (with_reducible refine (impl_AreCrew.calls k1 _ _ t577 true _ ?side1 ?side2 A49.out).mono ?_); (case side1 => exact Kd.C_up ((Kd.R_reads' HO_3.out).2.2)); (case side2 => exact (Kd.R_reads' HO_3.out).2.1); rintro e w55 ⟨rfl, hb⟩; have n0_ := Aside0.mk (Kd.R_below (Kd.R_up HO_3.out) hb); have n1_ := Aside0.mk (Kd.S_below (Kd.S_up HO_4.out) hb); have n2_ := Aside0.mk (Kd.R_below (Kd.R_up HO592.out) hb); have n3_ := Aside0.mk (Kd.R_below (Kd.R_up HO595.out) hb); have n4_ := Aside0.mk (Kd.R_below (Kd.R_up HO598.out) hb); have n5_ := Aside0.mk (below_step (below_up HB.out) hb); replace HO_3 := n0_; replace HO_4 := n1_; replace HO592 := n2_; replace HO595 := n3_; replace HO598 := n4_; replace HB := n5_; clear n0_ n1_ n2_ n3_ n4_ n5_; (try clear hb); (try clear hb2); (try clear hk); (try clear hi)))
      go_meet
      case rel => exact ⟨_, ((true != (decide ((t596.length : Int) ≥ 2)))), (by first | rfl | (simp; done) | (simp [*]; done)), H', ⟨by have := HK1.out; first | omega | exact Nat.le_refl _⟩, ⟨below_up HB.out⟩⟩
    replace c50 := Bool.eq_false_iff.mpr c50
    subst c50
    exact absurd (A42.out.symm.trans A49.out) (by simp)
   case rest =>
    clear HC31
    try clear c1
    try clear c2
    try clear p2
    try clear c4
    try clear c5
    try clear p5
    try clear q5
    try clear hx5
    try clear c6
    try clear c8
    try clear c9
    try clear c9b0
    try clear c10
    try clear c18
    try clear c19
    try clear c20
    try clear c21
    try clear c22
    try clear c29
    try clear c29b0
    try clear c29b1
    try clear c29b2
    try clear c40
    try clear c40b0
    try clear c40b1
    try clear c40b2
    try clear c43
    try clear c45
    try clear c46
    try clear c46b0
    try clear c46b1
    try clear c47
    try clear c47b0
    try clear c47b1
    try clear c50
    try clear c58
    try clear p58
    try clear q58
    try clear hx58
    try clear c66
    try clear c80
    try clear c80b0
    try clear c80b1
    try clear c81
    try clear c81b0
    try clear c81b1
    try clear c84
    try clear c97
    try clear hx584_0
    try clear hx586_0
    try clear hx587_0
    try clear p584
    try clear p586
    try clear p587
    try clear q584
    try clear q586
    try clear q587
    obtain ⟨kq, x97_30, rfl, HA, HJ30, HB⟩ := hcut
    cases kq with
    | zero => exact absurd HA.out (by simp [laws_FnRopes.j1])
    | succ kj30 =>
     have H := HA.out
     clear HA
     simp only [laws_FnRopes.j1] at H
     by_cases c106 : x97_30 = true
     · subst c106
       rw [if_pos rfl] at H
       exact absurd H (by simp)
     replace c106 := Bool.eq_false_iff.mpr c106
     subst c106
     rw [if_neg (show ¬ (false = true) by decide)] at H
     replace H := Option.bind_eq_some_iff.mp H
     obtain ⟨⟨t610, t611, t612, t615⟩, A1070, H⟩ := H
     dsimp only at H
     have A107 := Aside0.mk A1070
     clear A1070
     replace H := Option.bind_eq_some_iff.mp H
     obtain ⟨t619, A1080, H⟩ := H
     have A108 := Aside0.mk A1080
     clear A1080
     by_cases c109 : t619 ≥ 0
     rotate_left
     · rw [if_neg c109] at H
       have c109b0 : decide (0 ≤ t619) = false := decide_eq_false c109
       clear c109
       exact absurd H (by simp)
     rw [if_pos c109] at H
     have c109b0 : decide (0 ≤ t619) = true := decide_eq_true c109
     clear c109
     have H_ := Option.some.inj H
     clear H
     go_wp2_with (first | ((with_reducible refine gate_callee (f := 25) rfl ?_); refine goesL_ (some 100) rfl rfl Try.func25 (by kernel_rfl) rfl #[.slice A0 l0.length c0] rfl (by (try simp only [List.map_toArray, List.map_cons, List.map_nil]); first | done | rfl | (simp only [List.length_drop, List.length_take]; rfl)) ?_; (with_reducible refine (spec_DrawIceOn.calls kj30 _ _ l0 t610 t611 t612 t615 _ ?side1 ?side2 A107.out).mono ?_); (case side1 => exact (Kd.C_below HR0.out (below_up HB.out))); (case side2 => exact HC0.out); rintro e w110 ⟨v613, v616, rfl, ho0, ho1, hb⟩; refine ⟨_, rfl, ?_⟩; have n0_ := Aside0.mk (Kd.Q_lower ho0 (below_size (below_up HB.out))); have n1_ := Aside0.mk (Kd.R_lower ho1 (below_size (below_up HB.out))); have n2_ := Aside0.mk (below_step (below_up HB.out) hb); have HO614 := n0_; have HO617 := n1_; replace HB := n2_; clear n0_ n1_ n2_; (try clear hb); (try clear hb2); (try clear hk); (try clear hi); (try clear ho0); (try clear ho1)) | ((with_reducible refine gate_dst (N := 8) rfl ?_); (try (refine gate_guard (by rfl) ?_; dsimp only)); refine box_event ?hg (N := 8) ?hd (cs := #[.int .i64 0, .int .i64 0, .slice none 0 0]) (t := 43) ?hr ?_; (case hd => rfl); (case hg => rfl); (case hr => first | (go_simp; done) | (go_simp; rfl)); intro gb618 hg w111 hbox hb; have n0_ := Aside0.mk (Kd.Q_below (Kd.Q_up HO614.out) hb); have n1_ := Aside0.mk (Kd.R_below (Kd.R_up HO617.out) hb); have n2_ := Aside0.mk (below_step (below_up HB.out) hb); have n3_ := Aside0.mk (hbox); have n4_ := Aside0.mk (szle hg HB.out); have n5_ := Aside0.mk (szle hg HB.out); replace HO614 := n0_; replace HO617 := n1_; replace HB := n2_; have BK618 := n3_; have GW618 := n4_; have GE618 := n5_; clear n0_ n1_ n2_ n3_ n4_ n5_; clear hb hbox hg; obtain ⟨hcz112_0, hcz112_1, hcz112_2⟩ := cells3_ BK618.out; obtain ⟨hfz112_0, hfz112_1, hfz112_2⟩ := frz3_ BK618.out; obtain ⟨Ao113, co113, eo113, _⟩ := Kd.Q_slice HO614.out; subst eo113; obtain ⟨Ao114, co114, eo114⟩ := Kd.R_slice HO617.out; subst eo114) | ((with_reducible refine gate_callee (f := 26) rfl ?_); refine goesL_ (some 105) rfl rfl Try.func26 (by kernel_rfl) rfl #[.agg #[.int .i64 t610, .int .i64 t611, .slice Ao113 t612.length co113], .slice Ao114 t615.length co114] rfl (by (try simp only [List.map_toArray, List.map_cons, List.map_nil]); first | done | rfl | (simp only [List.length_drop, List.length_take]; rfl)) ?_; (with_reducible refine (impl_IceOn.calls kj30 t610 t611 _ _ t612 _ _ t615 t619 _ ?side1 ?side2 ?side3 ?side4 A108.out).mono ?_); (case side1 => refine (Kd.Q_reads' (e := 3) (base := w.heap.size) (ok := fun k_ => some k_ ≠ (.slice Ao114 t615.length co114 : Value).ownBlock) (n := t612.length) (c := co113) ?_).2.2; exact (by (with_reducible repeat (first | apply Kd.Q_alloc | apply Kd.Q_drewN | apply Kd.Q_drew)); exact (Kd.Q_mono (Kd.Q_far (p := ⟨gb618, 2, none⟩) (Kd.Q_far (p := ⟨gb618, 1, none⟩) (Kd.Q_far (p := ⟨gb618, 0, none⟩) (Kd.Q_types HO614.out BK618.out (by decide)) (fun _ hk => hk.2) (.int .i64 t610)) (fun _ hk => hk.2) (.int .i64 t611)) (fun _ hk => hk.2) (.slice Ao113 t612.length co113)) (fun _ h_ => h_.1)))); (case side2 => exact (Kd.Q_reads' HO614.out).2.1); (case side3 => refine (Kd.R_reads' (e := 3) (base := w.heap.size) (ok := fun k_ => some k_ ≠ (.slice Ao113 t612.length co113 : Value).ownBlock) (n := t615.length) (c := co114) ?_).2.2; exact (by (with_reducible repeat (first | apply Kd.R_alloc | apply Kd.R_drewN | apply Kd.R_drew)); exact (Kd.R_mono (Kd.R_far (p := ⟨gb618, 2, none⟩) (Kd.R_far (p := ⟨gb618, 1, none⟩) (Kd.R_far (p := ⟨gb618, 0, none⟩) (Kd.R_types HO617.out BK618.out (by decide)) (fun _ hk => hk.2) (.int .i64 t610)) (fun _ hk => hk.2) (.int .i64 t611)) (fun _ hk => hk.2) (.slice Ao113 t612.length co113)) (fun _ h_ => h_.1)))); (case side4 => exact (Kd.R_reads' HO617.out).2.1); rintro e w115 ⟨rfl, hb⟩; refine ⟨_, rfl, ?_⟩; have n0_ := Aside0.mk (Kd.Q_below (by (with_reducible repeat (first | apply Kd.Q_alloc | apply Kd.Q_drewN | apply Kd.Q_drew)); exact (Kd.Q_mono (Kd.Q_far (p := ⟨gb618, 2, none⟩) (Kd.Q_far (p := ⟨gb618, 1, none⟩) (Kd.Q_far (p := ⟨gb618, 0, none⟩) (Kd.Q_types HO614.out BK618.out (by decide)) (fun _ hk => hk.2) (.int .i64 t610)) (fun _ hk => hk.2) (.int .i64 t611)) (fun _ hk => hk.2) (.slice Ao113 t612.length co113)) (fun _ h_ => h_.1))) hb); have n1_ := Aside0.mk (Kd.R_below (by (with_reducible repeat (first | apply Kd.R_alloc | apply Kd.R_drewN | apply Kd.R_drew)); exact (Kd.R_mono (Kd.R_far (p := ⟨gb618, 2, none⟩) (Kd.R_far (p := ⟨gb618, 1, none⟩) (Kd.R_far (p := ⟨gb618, 0, none⟩) (Kd.R_types HO617.out BK618.out (by decide)) (fun _ hk => hk.2) (.int .i64 t610)) (fun _ hk => hk.2) (.int .i64 t611)) (fun _ hk => hk.2) (.slice Ao113 t612.length co113)) (fun _ h_ => h_.1))) hb); have n2_ := Aside0.mk (blk_below (g := gb618) (o := .cells #[.int .i64 t610, .int .i64 t611, .slice Ao113 t612.length co113] 43 (0, 0)) (by (with_reducible repeat (first | refine blk_drewN ?_ _ | refine blk_drew ?_ | refine blk_alloc ?_ _)); refine blk_put (cs := #[.int .i64 t610, .int .i64 t611, .slice none 0 0]) ?_ 2 _ rfl; (with_reducible repeat (first | refine blk_drewN ?_ _ | refine blk_drew ?_ | refine blk_alloc ?_ _)); refine blk_put (cs := #[.int .i64 t610, .int .i64 0, .slice none 0 0]) ?_ 1 _ rfl; (with_reducible repeat (first | refine blk_drewN ?_ _ | refine blk_drew ?_ | refine blk_alloc ?_ _)); refine blk_put (cs := #[.int .i64 0, .int .i64 0, .slice none 0 0]) ?_ 0 _ rfl; (with_reducible repeat (first | refine blk_drewN ?_ _ | refine blk_drew ?_ | refine blk_alloc ?_ _)); exact BK618.out) hb); have n3_ := Aside0.mk (below_step (by repeat (first | (with_reducible first | exact HB.out | apply below_alloc | apply pw_below_drewN | apply below_drew1 | refine below_set ?_ GE618.out) | exact HB.out)) hb); replace HO614 := n0_; replace HO617 := n1_; replace BK618 := n2_; replace HB := n3_; clear n0_ n1_ n2_ n3_; (try clear hb); (try clear hb2); (try clear hk); (try clear hi)))
     go_ret
     exact ⟨by first | rfl | (simp [errW_none, errW_some] <;> rfl) | (simp [*, errW_none, errW_some] <;> rfl), by repeat (first | (with_reducible first | exact HB.out | apply below_alloc | apply pw_below_drewN | apply below_drew1 | refine below_set ?_ GE618.out) | exact HB.out)⟩
/-- THE ONE PURE STATEMENT of laws_FnRopes: yours. -/
def laws_FnRopes.Pure : Prop := ∀ (l0 : List Int), l0.length ≤ maxLen → l0.length * 1 ≤ 140737488351232 → (∀ x ∈ l0, (Lit.int .u8 x).wf = true) → ∃ k, laws_FnRopes.f k l0 = some true
theorem laws_FnRopes.walk (P : laws_FnRopes.Pure) (a0 : Option Addr) (len0 cap0 : Nat) (z0 : List Int) (w : World) (w0 : (a0 = none ∧ len0 = 0 ∧ cap0 = 0 ∧ z0 = []) ∨ ∃ x, a0 = some x ∧ len0 ≤ cap0 ∧ cap0 ≤ maxLen ∧ z0.length = cap0 ∧ (∀ i, i < z0.length → w.cell? (x.add i) = some (.int .u8 (z0.getD i 0))) ∧ ∀ n ∈ z0, (Lit.int .u8 n).wf = true) (y0 : len0 * 1 ≤ 140737488351232) :
 Calls Try.prog 4 #[.slice a0 len0 cap0] w fun e w' => e = .returned (.bool true) ∧ Below w.heap.size w w' := by
 obtain ⟨l0, rfl, hr0, hm0, hw0, hc0⟩ := ReadsInt.ofRowC w0
 obtain ⟨k, h⟩ := P l0 hm0 y0 hw0
 refine (laws_FnRopes.calls k _ _ l0 true w (Kd.C_of_reads (d := (0 : Int)) (h1 := fun _ => rfl) hr0) hc0 h).mono ?_
 rintro e w' ⟨rfl, hd⟩
 exact ⟨rfl, hd⟩

end Go.Proofs.Ytdgpnmbmnnmdcaa.PFnRopes
