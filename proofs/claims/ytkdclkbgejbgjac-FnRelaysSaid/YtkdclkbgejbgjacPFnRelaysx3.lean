/- The contracts of Go functions that the law FnRelays reaches: turned from what print.sh prints, in rows that Lean did not take. Written by patch.py. -/
import Derived.Test.YtkdclkbgejbgjacPFnRelaysx0
import Derived.Test.YtkdclkbgejbgjacPFnRelaysx1
import Derived.Test.YtkdclkbgejbgjacPFnRelaysx2
namespace Go.Proofs.Ytkdclkbgejbgjac.PFnRelays
open Go.RowKit Go.Proofs.YtkdclkbgejbgjacW.PrintWords Go.Proofs.YtkdclkbgejbgjacW.PrintLast Go.Proofs.YtkdclkbgejbgjacW.PrintMore
attribute [local go_sem] max2_int min2_int max_two min_two max_three min_three max_four min_four   -- for this text's walks alone
set_option linter.unusedVariables false
set_option linter.unusedSimpArgs false

/-! ### laws_FnRelays: function 7 -/
mutual
def laws_FnRelays.j0 : Nat → List Int → Bool → Option (Bool)
  | 0, _, _ => none
  | k + 1, x0, x63 => if x63 = true then (some false) else ((spec_DrawTripsFor.f k x0).bind fun bt210 => ((impl_TripsFor.f k bt210.1 bt210.2.1 bt210.2.2.1 bt210.2.2.2).bind fun t214 => (if t214 > 0 then ((impl_SpareAt.f bt210.1 bt210.2.1 bt210.2.2.1).bind fun t215 => (if (wrap64 (t214 * t215)) < bt210.2.2.2 then (laws_FnRelays.j1 k x0 true) else ((impl_SpareAt.f bt210.1 bt210.2.1 bt210.2.2.1).bind fun t216 => (if (wrap64 ((wrap64 (t214 - 1)) * t216)) ≥ bt210.2.2.2 then (laws_FnRelays.j1 k x0 true) else (if t214 = 0 then (laws_FnRelays.j1 k x0 (bt210.2.2.2 != 0)) else (laws_FnRelays.j1 k x0 false)))))) else (if t214 = 0 then (laws_FnRelays.j1 k x0 (bt210.2.2.2 != 0)) else (laws_FnRelays.j1 k x0 false)))))
def laws_FnRelays.j1 : Nat → List Int → Bool → Option (Bool)
  | 0, _, _ => none
  | k + 1, x0, x106 => if x106 = true then (some false) else ((spec_DrawFarthestBy.f k x0).bind fun bt217 => ((impl_FarthestBy.f k bt217.1 bt217.2.1 bt217.2.2).bind fun t220 => (if t220 ≥ 0 then ((impl_OutDays.f bt217.1 bt217.2.1).bind fun t221 => (if t220 < t221 then (laws_FnRelays.j2 k x0 true) else (if bt217.2.2 > 0 then ((impl_FarthestBy.f k bt217.1 bt217.2.1 (wrap64 (bt217.2.2 - 1))).bind fun t222 => (laws_FnRelays.j2 k x0 (decide (t220 < t222)))) else (laws_FnRelays.j2 k x0 false)))) else (laws_FnRelays.j2 k x0 false))))
def laws_FnRelays.j2 : Nat → List Int → Bool → Option (Bool)
  | 0, _, _ => none
  | k + 1, x0, x138 => if x138 = true then (some false) else ((spec_DrawFoodEaten.f k x0).bind fun bt223 => ((impl_FoodEaten.f bt223.1 bt223.2).bind fun t225 => (some (decide (t225 ≥ 0)))))
end
def laws_FnRelays.f (k : Nat) (l0 : List Int) : Option (Bool) := (laws_big.f l0).bind fun t203 => (if t203 = true then (some true) else ((spec_DrawOutDays.f k l0).bind fun bt204 => ((impl_OutDays.f bt204.1 bt204.2).bind fun t206 => (if bt204.1 ≥ 0 then (if bt204.1 ≤ 10000 then (if bt204.2 ≥ 1 then (if bt204.2 ≤ 100 then (if t206 ≤ 1000 then ((impl_SpareAt.f bt204.1 bt204.2 t206).bind fun t207 => (if t207 < 0 then (laws_FnRelays.j0 k l0 true) else (if t206 < 1000 then ((impl_SpareAt.f bt204.1 bt204.2 (wrap64 (t206 + 1))).bind fun t208 => (laws_FnRelays.j0 k l0 (decide (t208 ≥ 0)))) else (laws_FnRelays.j0 k l0 false)))) else (if t206 < 1000 then ((impl_SpareAt.f bt204.1 bt204.2 (wrap64 (t206 + 1))).bind fun t209 => (laws_FnRelays.j0 k l0 (decide (t209 ≥ 0)))) else (laws_FnRelays.j0 k l0 false))) else (laws_FnRelays.j0 k l0 false)) else (laws_FnRelays.j0 k l0 false)) else (laws_FnRelays.j0 k l0 false)) else (laws_FnRelays.j0 k l0 false)))))
theorem laws_FnRelays.mono_l : ∀ k, (∀ y0 y1, LeO (laws_FnRelays.j0 k y0 y1) (laws_FnRelays.j0 (k + 1) y0 y1)) ∧ (∀ y0 y1, LeO (laws_FnRelays.j1 k y0 y1) (laws_FnRelays.j1 (k + 1) y0 y1)) ∧ (∀ y0 y1, LeO (laws_FnRelays.j2 k y0 y1) (laws_FnRelays.j2 (k + 1) y0 y1))
  | 0 => ⟨fun _ _ r h => by simp [laws_FnRelays.j0] at h, fun _ _ r h => by simp [laws_FnRelays.j1] at h, fun _ _ r h => by simp [laws_FnRelays.j2] at h⟩
  | k + 1 => by
    obtain ⟨ih0, ih1, ih2⟩ := laws_FnRelays.mono_l k
    refine ⟨?_, ?_, ?_⟩
    · intro y0 y1
      unfold laws_FnRelays.j0
      repeat' first
      | (with_reducible exact ih0 _ _)
      | (with_reducible exact ih1 _ _)
      | (with_reducible exact ih2 _ _)
      | (with_reducible exact impl_FarthestBy.mono _ _ _ _)
      | (with_reducible exact impl_TripsFor.mono _ _ _ _ _)
      | (with_reducible exact spec_DrawFarthestBy.mono _ _)
      | (with_reducible exact spec_DrawFoodEaten.mono _ _)
      | (with_reducible exact spec_DrawOutDays.mono _ _)
      | (with_reducible exact spec_DrawTripsFor.mono _ _)
      | (with_reducible exact LeO.refl _)
      | (with_reducible exact LeO.none _)
      | (with_reducible refine LeO.ite ?_ ?_)
      | (with_reducible refine LeO.bind ?_ (fun _ => ?_))
      | exact ih0 _ _
      | exact ih1 _ _
      | exact ih2 _ _
      | exact impl_FarthestBy.mono _ _ _ _
      | exact impl_TripsFor.mono _ _ _ _ _
      | exact spec_DrawFarthestBy.mono _ _
      | exact spec_DrawFoodEaten.mono _ _
      | exact spec_DrawOutDays.mono _ _
      | exact spec_DrawTripsFor.mono _ _
      | exact LeO.none _
      | refine LeO.ite ?_ ?_
      | refine LeO.bind ?_ (fun _ => ?_)
    · intro y0 y1
      unfold laws_FnRelays.j1
      repeat' first
      | (with_reducible exact ih0 _ _)
      | (with_reducible exact ih1 _ _)
      | (with_reducible exact ih2 _ _)
      | (with_reducible exact impl_FarthestBy.mono _ _ _ _)
      | (with_reducible exact impl_TripsFor.mono _ _ _ _ _)
      | (with_reducible exact spec_DrawFarthestBy.mono _ _)
      | (with_reducible exact spec_DrawFoodEaten.mono _ _)
      | (with_reducible exact spec_DrawOutDays.mono _ _)
      | (with_reducible exact spec_DrawTripsFor.mono _ _)
      | (with_reducible exact LeO.refl _)
      | (with_reducible exact LeO.none _)
      | (with_reducible refine LeO.ite ?_ ?_)
      | (with_reducible refine LeO.bind ?_ (fun _ => ?_))
      | exact ih0 _ _
      | exact ih1 _ _
      | exact ih2 _ _
      | exact impl_FarthestBy.mono _ _ _ _
      | exact impl_TripsFor.mono _ _ _ _ _
      | exact spec_DrawFarthestBy.mono _ _
      | exact spec_DrawFoodEaten.mono _ _
      | exact spec_DrawOutDays.mono _ _
      | exact spec_DrawTripsFor.mono _ _
      | exact LeO.none _
      | refine LeO.ite ?_ ?_
      | refine LeO.bind ?_ (fun _ => ?_)
    · intro y0 y1
      unfold laws_FnRelays.j2
      repeat' first
      | (with_reducible exact ih0 _ _)
      | (with_reducible exact ih1 _ _)
      | (with_reducible exact ih2 _ _)
      | (with_reducible exact impl_FarthestBy.mono _ _ _ _)
      | (with_reducible exact impl_TripsFor.mono _ _ _ _ _)
      | (with_reducible exact spec_DrawFarthestBy.mono _ _)
      | (with_reducible exact spec_DrawFoodEaten.mono _ _)
      | (with_reducible exact spec_DrawOutDays.mono _ _)
      | (with_reducible exact spec_DrawTripsFor.mono _ _)
      | (with_reducible exact LeO.refl _)
      | (with_reducible exact LeO.none _)
      | (with_reducible refine LeO.ite ?_ ?_)
      | (with_reducible refine LeO.bind ?_ (fun _ => ?_))
      | exact ih0 _ _
      | exact ih1 _ _
      | exact ih2 _ _
      | exact impl_FarthestBy.mono _ _ _ _
      | exact impl_TripsFor.mono _ _ _ _ _
      | exact spec_DrawFarthestBy.mono _ _
      | exact spec_DrawFoodEaten.mono _ _
      | exact spec_DrawOutDays.mono _ _
      | exact spec_DrawTripsFor.mono _ _
      | exact LeO.none _
      | refine LeO.ite ?_ ?_
      | refine LeO.bind ?_ (fun _ => ?_)
theorem laws_FnRelays.mono : ∀ a0 k, LeO (laws_FnRelays.f k a0) (laws_FnRelays.f (k + 1) a0) := by
  intro a0 k
  obtain ⟨ih0, ih1, ih2⟩ := laws_FnRelays.mono_l k
  unfold laws_FnRelays.f
  repeat' first
      | (with_reducible exact ih0 _ _)
      | (with_reducible exact ih1 _ _)
      | (with_reducible exact ih2 _ _)
      | (with_reducible exact impl_FarthestBy.mono _ _ _ _)
      | (with_reducible exact impl_TripsFor.mono _ _ _ _ _)
      | (with_reducible exact spec_DrawFarthestBy.mono _ _)
      | (with_reducible exact spec_DrawFoodEaten.mono _ _)
      | (with_reducible exact spec_DrawOutDays.mono _ _)
      | (with_reducible exact spec_DrawTripsFor.mono _ _)
      | (with_reducible exact LeO.refl _)
      | (with_reducible exact LeO.none _)
      | (with_reducible refine LeO.ite ?_ ?_)
      | (with_reducible refine LeO.bind ?_ (fun _ => ?_))
      | exact ih0 _ _
      | exact ih1 _ _
      | exact ih2 _ _
      | exact impl_FarthestBy.mono _ _ _ _
      | exact impl_TripsFor.mono _ _ _ _ _
      | exact spec_DrawFarthestBy.mono _ _
      | exact spec_DrawFoodEaten.mono _ _
      | exact spec_DrawOutDays.mono _ _
      | exact spec_DrawTripsFor.mono _ _
      | exact LeO.none _
      | refine LeO.ite ?_ ?_
      | refine LeO.bind ?_ (fun _ => ?_)
set_option maxHeartbeats 8000000 in
set_option maxRecDepth 100000 in
theorem laws_FnRelays.calls (k : Nat) (A0 : Option Addr) (c0 : Nat) (l0 : List Int) (r : Bool) (w : World) (hr0 : Kd.C (Kd.int .u8) w A0 l0.length l0) (hc0 : l0.length ≤ c0) (h : laws_FnRelays.f k l0 = some r) :
    Calls Try.prog 7 #[.slice A0 l0.length c0] w fun e w' => e = .returned (.bool r) ∧ Below w.heap.size w w' := by
  have HR0 := Aside0.mk hr0
  have HC0 := Aside0.mk hc0
  clear hr0 hc0
  have HB := Aside0.mk (Below.refl w.heap.size w)
  have H : ((laws_big.f l0).bind fun t203 => (if t203 = true then (some true) else ((spec_DrawOutDays.f k l0).bind fun bt204 => ((impl_OutDays.f bt204.1 bt204.2).bind fun t206 => (if bt204.1 ≥ 0 then (if bt204.1 ≤ 10000 then (if bt204.2 ≥ 1 then (if bt204.2 ≤ 100 then (if t206 ≤ 1000 then ((impl_SpareAt.f bt204.1 bt204.2 t206).bind fun t207 => (if t207 < 0 then (laws_FnRelays.j0 k l0 true) else (if t206 < 1000 then ((impl_SpareAt.f bt204.1 bt204.2 (wrap64 (t206 + 1))).bind fun t208 => (laws_FnRelays.j0 k l0 (decide (t208 ≥ 0)))) else (laws_FnRelays.j0 k l0 false)))) else (if t206 < 1000 then ((impl_SpareAt.f bt204.1 bt204.2 (wrap64 (t206 + 1))).bind fun t209 => (laws_FnRelays.j0 k l0 (decide (t209 ≥ 0)))) else (laws_FnRelays.j0 k l0 false))) else (laws_FnRelays.j0 k l0 false)) else (laws_FnRelays.j0 k l0 false)) else (laws_FnRelays.j0 k l0 false)) else (laws_FnRelays.j0 k l0 false)))))) = some r := h
  clear h
  replace H := Option.bind_eq_some_iff.mp H
  obtain ⟨t203, A20, H⟩ := H
  replace H : (if t203 = true then (some true) else ((spec_DrawOutDays.f k l0).bind fun bt204 => ((impl_OutDays.f bt204.1 bt204.2).bind fun t206 => (if bt204.1 ≥ 0 then (if bt204.1 ≤ 10000 then (if bt204.2 ≥ 1 then (if bt204.2 ≤ 100 then (if t206 ≤ 1000 then ((impl_SpareAt.f bt204.1 bt204.2 t206).bind fun t207 => (if t207 < 0 then (laws_FnRelays.j0 k l0 true) else (if t206 < 1000 then ((impl_SpareAt.f bt204.1 bt204.2 (wrap64 (t206 + 1))).bind fun t208 => (laws_FnRelays.j0 k l0 (decide (t208 ≥ 0)))) else (laws_FnRelays.j0 k l0 false)))) else (if t206 < 1000 then ((impl_SpareAt.f bt204.1 bt204.2 (wrap64 (t206 + 1))).bind fun t209 => (laws_FnRelays.j0 k l0 (decide (t209 ≥ 0)))) else (laws_FnRelays.j0 k l0 false))) else (laws_FnRelays.j0 k l0 false)) else (laws_FnRelays.j0 k l0 false)) else (laws_FnRelays.j0 k l0 false)) else (laws_FnRelays.j0 k l0 false))))) = some r := H
  have A2 := Aside0.mk A20
  clear A20
  by_cases c3 : t203 = true
  · subst c3
    have H1 : (some true) = some r := by rw [if_pos rfl] at H; exact H
    clear H
    have H := H1
    clear H1
    obtain rfl := Option.some.inj H
    go_enter Try.func7, Try.ntmps7
    go_wp2_with (first | ((with_reducible refine gate_callee (f := 18) rfl ?_); refine goesL_ (some 18) rfl rfl Try.func18 (by kernel_rfl) rfl #[.slice A0 l0.length c0] rfl (by (try simp only [List.map_toArray, List.map_cons, List.map_nil]); first | done | rfl | (simp only [List.length_drop, List.length_take]; rfl)) ?_; (with_reducible refine (laws_big.calls _ _ l0 true _ ?side1 ?side2 A2.out).mono ?_); (case side1 => repeat (first | exact HR0.out | (with_reducible refine Kd.C_alloc ?_ _) | (with_reducible refine Kd.C_drewN ?_ _) | (with_reducible refine Kd.C_drew ?_))); (case side2 => exact HC0.out); rintro e w' ⟨rfl, ⟨nd, rfl⟩⟩; refine ⟨_, rfl, ?_⟩))
    go_ret
    exact ⟨by first | rfl | (simp [errW_none, errW_some] <;> rfl) | (simp [*, errW_none, errW_some] <;> rfl), by repeat (first | (with_reducible first | exact HB.out | apply below_alloc | apply pw_below_drewN | apply below_drew1) | exact HB.out)⟩
  · replace c3 := Bool.eq_false_iff.mpr c3
    subst c3
    have H1 : ((spec_DrawOutDays.f k l0).bind fun bt204 => ((impl_OutDays.f bt204.1 bt204.2).bind fun t206 => (if bt204.1 ≥ 0 then (if bt204.1 ≤ 10000 then (if bt204.2 ≥ 1 then (if bt204.2 ≤ 100 then (if t206 ≤ 1000 then ((impl_SpareAt.f bt204.1 bt204.2 t206).bind fun t207 => (if t207 < 0 then (laws_FnRelays.j0 k l0 true) else (if t206 < 1000 then ((impl_SpareAt.f bt204.1 bt204.2 (wrap64 (t206 + 1))).bind fun t208 => (laws_FnRelays.j0 k l0 (decide (t208 ≥ 0)))) else (laws_FnRelays.j0 k l0 false)))) else (if t206 < 1000 then ((impl_SpareAt.f bt204.1 bt204.2 (wrap64 (t206 + 1))).bind fun t209 => (laws_FnRelays.j0 k l0 (decide (t209 ≥ 0)))) else (laws_FnRelays.j0 k l0 false))) else (laws_FnRelays.j0 k l0 false)) else (laws_FnRelays.j0 k l0 false)) else (laws_FnRelays.j0 k l0 false)) else (laws_FnRelays.j0 k l0 false)))) = some r := by rw [if_neg (show ¬ (false = true) by decide)] at H; exact H
    clear H
    have H := H1
    clear H1
    replace H := Option.bind_eq_some_iff.mp H
    obtain ⟨⟨t204, t205⟩, A40, H⟩ := H
    replace H : ((impl_OutDays.f t204 t205).bind fun t206 => (if t204 ≥ 0 then (if t204 ≤ 10000 then (if t205 ≥ 1 then (if t205 ≤ 100 then (if t206 ≤ 1000 then ((impl_SpareAt.f t204 t205 t206).bind fun t207 => (if t207 < 0 then (laws_FnRelays.j0 k l0 true) else (if t206 < 1000 then ((impl_SpareAt.f t204 t205 (wrap64 (t206 + 1))).bind fun t208 => (laws_FnRelays.j0 k l0 (decide (t208 ≥ 0)))) else (laws_FnRelays.j0 k l0 false)))) else (if t206 < 1000 then ((impl_SpareAt.f t204 t205 (wrap64 (t206 + 1))).bind fun t209 => (laws_FnRelays.j0 k l0 (decide (t209 ≥ 0)))) else (laws_FnRelays.j0 k l0 false))) else (laws_FnRelays.j0 k l0 false)) else (laws_FnRelays.j0 k l0 false)) else (laws_FnRelays.j0 k l0 false)) else (laws_FnRelays.j0 k l0 false))) = some r := H
    have A4 := Aside0.mk A40
    clear A40
    replace H := Option.bind_eq_some_iff.mp H
    obtain ⟨t206, A50, H⟩ := H
    replace H : (if t204 ≥ 0 then (if t204 ≤ 10000 then (if t205 ≥ 1 then (if t205 ≤ 100 then (if t206 ≤ 1000 then ((impl_SpareAt.f t204 t205 t206).bind fun t207 => (if t207 < 0 then (laws_FnRelays.j0 k l0 true) else (if t206 < 1000 then ((impl_SpareAt.f t204 t205 (wrap64 (t206 + 1))).bind fun t208 => (laws_FnRelays.j0 k l0 (decide (t208 ≥ 0)))) else (laws_FnRelays.j0 k l0 false)))) else (if t206 < 1000 then ((impl_SpareAt.f t204 t205 (wrap64 (t206 + 1))).bind fun t209 => (laws_FnRelays.j0 k l0 (decide (t209 ≥ 0)))) else (laws_FnRelays.j0 k l0 false))) else (laws_FnRelays.j0 k l0 false)) else (laws_FnRelays.j0 k l0 false)) else (laws_FnRelays.j0 k l0 false)) else (laws_FnRelays.j0 k l0 false)) = some r := H
    have A5 := Aside0.mk A50
    clear A50
    have HC6 := Aside0.mk H
    clear H
    go_enter Try.func7, Try.ntmps7
    go_upto_region 5 with (first | ((with_reducible refine gate_callee (f := 18) rfl ?_); refine goesL_ (some 18) rfl rfl Try.func18 (by kernel_rfl) rfl #[.slice A0 l0.length c0] rfl (by (try simp only [List.map_toArray, List.map_cons, List.map_nil]); first | done | rfl | (simp only [List.length_drop, List.length_take]; rfl)) ?_; (with_reducible refine (laws_big.calls _ _ l0 false _ ?side1 ?side2 A2.out).mono ?_); (case side1 => repeat (first | exact HR0.out | (with_reducible refine Kd.C_alloc ?_ _) | (with_reducible refine Kd.C_drewN ?_ _) | (with_reducible refine Kd.C_drew ?_))); (case side2 => exact HC0.out); rintro e w' ⟨rfl, ⟨nd, rfl⟩⟩; refine ⟨_, rfl, ?_⟩) | ((with_reducible refine gate_callee (f := 31) rfl ?_); refine goesL_ (some 21) rfl rfl Try.func31 (by kernel_rfl) rfl #[.slice A0 l0.length c0] rfl (by (try simp only [List.map_toArray, List.map_cons, List.map_nil]); first | done | rfl | (simp only [List.length_drop, List.length_take]; rfl)) ?_; (with_reducible refine (spec_DrawOutDays.calls k _ _ l0 t204 t205 _ ?side1 ?side2 A4.out).mono ?_); (case side1 => repeat (first | exact HR0.out | (with_reducible refine Kd.C_alloc ?_ _) | (with_reducible refine Kd.C_drewN ?_ _) | (with_reducible refine Kd.C_drew ?_))); (case side2 => exact HC0.out); rintro e w7 ⟨rfl, hb⟩; refine ⟨_, rfl, ?_⟩; have n0_ := Aside0.mk (below_step (by repeat (first | (with_reducible first | exact HB.out | apply below_alloc | apply pw_below_drewN | apply below_drew1) | exact HB.out)) hb); clear HB; have HB := n0_; clear n0_; (try clear hb); (try clear hb2); (try clear hk); (try clear hi)) | ((with_reducible refine gate_callee (f := 32) rfl ?_); refine goesL_ (some 26) rfl rfl Try.func32 (by kernel_rfl) rfl #[.int .i64 t204, .int .i64 t205] rfl (by (try simp only [List.map_toArray, List.map_cons, List.map_nil]); first | done | rfl | (simp only [List.length_drop, List.length_take]; rfl)) ?_; (with_reducible refine (impl_OutDays.calls t204 t205 t206 _ A5.out).mono ?_); rintro e w' ⟨rfl, ⟨nd, rfl⟩⟩; refine ⟨_, rfl, ?_⟩))
    (try simp only [Act.put, List.setIfInBounds_toArray, List.set_cons_zero, List.set_cons_succ])
    go_cut [63] (fun v63 wc => ∃ (kq : Nat) (x63_5 : Bool), v63 = .bool x63_5 ∧ Aside0 (laws_FnRelays.j0 kq l0 x63_5 = some r) ∧ Aside0 (kq ≤ k) ∧ Aside0 (Below w.heap.size w wc))
    case first =>
      have H := HC6.out
      clear HC6
      by_cases c8 : t204 ≥ 0
      · rw [if_pos c8] at H
        have c8b0 : decide (0 ≤ t204) = true := decide_eq_true c8
        clear c8
        (first | rw [c8b0] | (simp only [i64_w, i32_w]; rw [c8b0]) | skip)
        by_cases c9 : t204 ≤ 10000
        · rw [if_pos c9] at H
          have c9b0 : decide (t204 ≤ 10000) = true := decide_eq_true c9
          clear c9
          by_cases c10 : t205 ≥ 1
          · rw [if_pos c10] at H
            have c10b0 : decide (1 ≤ t205) = true := decide_eq_true c10
            clear c10
            by_cases c11 : t205 ≤ 100
            · rw [if_pos c11] at H
              have c11b0 : decide (t205 ≤ 100) = true := decide_eq_true c11
              clear c11
              by_cases c12 : t206 ≤ 1000
              · rw [if_pos c12] at H
                have c12b0 : decide (t206 ≤ 1000) = true := decide_eq_true c12
                clear c12
                replace H := Option.bind_eq_some_iff.mp H
                obtain ⟨t207, A130, H⟩ := H
                replace H : (if t207 < 0 then (laws_FnRelays.j0 k l0 true) else (if t206 < 1000 then ((impl_SpareAt.f t204 t205 (wrap64 (t206 + 1))).bind fun t208 => (laws_FnRelays.j0 k l0 (decide (t208 ≥ 0)))) else (laws_FnRelays.j0 k l0 false))) = some r := H
                have A13 := Aside0.mk A130
                clear A130
                by_cases c14 : t207 < 0
                · rw [if_pos c14] at H
                  have c14b0 : decide (t207 < 0) = true := decide_eq_true c14
                  clear c14
                  have H' := Aside0.mk H
                  clear H
                  go_wp2_with (first | (go_at_call 33; (with_reducible refine (impl_SpareAt.calls t204 t205 t206 t207 _ A13.out).mono ?_); rintro e w15 ⟨rfl, hb⟩; have n0_ := Aside0.mk (below_step (by repeat (first | (with_reducible first | exact HB.out | apply below_alloc | apply pw_below_drewN | apply below_drew1) | exact HB.out)) hb); clear HB; have HB := n0_; clear n0_; (try clear hb); (try clear hb2); (try clear hk); (try clear hi)))
                  go_meet
                  case rel => exact ⟨_, (true), (by first | rfl | (simp; done) | (simp [*]; done)), H', ⟨by first | omega | exact Nat.le_refl _⟩, ⟨by repeat (first | (with_reducible first | exact HB.out | apply below_alloc | apply pw_below_drewN | apply below_drew1) | exact HB.out)⟩⟩
                · rw [if_neg c14] at H
                  have c14b0 : decide (t207 < 0) = false := decide_eq_false c14
                  clear c14
                  by_cases c16 : t206 < 1000
                  · rw [if_pos c16] at H
                    have c16b0 : decide (t206 < 1000) = true := decide_eq_true c16
                    clear c16
                    replace H := Option.bind_eq_some_iff.mp H
                    obtain ⟨t208, A170, H⟩ := H
                    replace H : (laws_FnRelays.j0 k l0 (decide (t208 ≥ 0))) = some r := H
                    have A17 := Aside0.mk A170
                    clear A170
                    have H' := Aside0.mk H
                    clear H
                    go_wp2_with (first | (go_at_call 33; (with_reducible refine (impl_SpareAt.calls t204 t205 t206 t207 _ A13.out).mono ?_); rintro e w18 ⟨rfl, hb⟩; have n0_ := Aside0.mk (below_step (by repeat (first | (with_reducible first | exact HB.out | apply below_alloc | apply pw_below_drewN | apply below_drew1) | exact HB.out)) hb); clear HB; have HB := n0_; clear n0_; (try clear hb); (try clear hb2); (try clear hk); (try clear hi)) | (go_at_call 33; (with_reducible refine (impl_SpareAt.calls t204 t205 (wrap64 (t206 + 1)) t208 _ A17.out).mono ?_); rintro e w19 ⟨rfl, hb⟩; have n0_ := Aside0.mk (below_step (by repeat (first | (with_reducible first | exact HB.out | apply below_alloc | apply pw_below_drewN | apply below_drew1) | exact HB.out)) hb); clear HB; have HB := n0_; clear n0_; (try clear hb); (try clear hb2); (try clear hk); (try clear hi)))
                    go_meet
                    case rel => exact ⟨_, (decide (t208 ≥ 0)), (by first | rfl | (simp; done) | (simp [*]; done)), H', ⟨by first | omega | exact Nat.le_refl _⟩, ⟨by repeat (first | (with_reducible first | exact HB.out | apply below_alloc | apply pw_below_drewN | apply below_drew1) | exact HB.out)⟩⟩
                  · rw [if_neg c16] at H
                    have c16b0 : decide (t206 < 1000) = false := decide_eq_false c16
                    clear c16
                    have H' := Aside0.mk H
                    clear H
                    go_wp2_with (first | (go_at_call 33; (with_reducible refine (impl_SpareAt.calls t204 t205 t206 t207 _ A13.out).mono ?_); rintro e w20 ⟨rfl, hb⟩; have n0_ := Aside0.mk (below_step (by repeat (first | (with_reducible first | exact HB.out | apply below_alloc | apply pw_below_drewN | apply below_drew1) | exact HB.out)) hb); clear HB; have HB := n0_; clear n0_; (try clear hb); (try clear hb2); (try clear hk); (try clear hi)))
                    go_meet
                    case rel => exact ⟨_, (false), (by first | rfl | (simp; done) | (simp [*]; done)), H', ⟨by first | omega | exact Nat.le_refl _⟩, ⟨by repeat (first | (with_reducible first | exact HB.out | apply below_alloc | apply pw_below_drewN | apply below_drew1) | exact HB.out)⟩⟩
              · rw [if_neg c12] at H
                have c12b0 : decide (t206 ≤ 1000) = false := decide_eq_false c12
                clear c12
                by_cases c21 : t206 < 1000
                · rw [if_pos c21] at H
                  have c21b0 : decide (t206 < 1000) = true := decide_eq_true c21
                  clear c21
                  replace H := Option.bind_eq_some_iff.mp H
                  obtain ⟨t209, A220, H⟩ := H
                  replace H : (laws_FnRelays.j0 k l0 (decide (t209 ≥ 0))) = some r := H
                  have A22 := Aside0.mk A220
                  clear A220
                  have H' := Aside0.mk H
                  clear H
                  go_wp2_with (first | (go_at_call 33; (with_reducible refine (impl_SpareAt.calls t204 t205 (wrap64 (t206 + 1)) t209 _ A22.out).mono ?_); rintro e w23 ⟨rfl, hb⟩; have n0_ := Aside0.mk (below_step (by repeat (first | (with_reducible first | exact HB.out | apply below_alloc | apply pw_below_drewN | apply below_drew1) | exact HB.out)) hb); clear HB; have HB := n0_; clear n0_; (try clear hb); (try clear hb2); (try clear hk); (try clear hi)))
                  go_meet
                  case rel => exact ⟨_, (decide (t209 ≥ 0)), (by first | rfl | (simp; done) | (simp [*]; done)), H', ⟨by first | omega | exact Nat.le_refl _⟩, ⟨by repeat (first | (with_reducible first | exact HB.out | apply below_alloc | apply pw_below_drewN | apply below_drew1) | exact HB.out)⟩⟩
                · rw [if_neg c21] at H
                  have c21b0 : decide (t206 < 1000) = false := decide_eq_false c21
                  clear c21
                  have H' := Aside0.mk H
                  clear H
                  go_wp2
                  go_meet
                  case rel => exact ⟨_, (false), (by first | rfl | (simp; done) | (simp [*]; done)), H', ⟨by first | omega | exact Nat.le_refl _⟩, ⟨by repeat (first | (with_reducible first | exact HB.out | apply below_alloc | apply pw_below_drewN | apply below_drew1) | exact HB.out)⟩⟩
            · rw [if_neg c11] at H
              have c11b0 : decide (t205 ≤ 100) = false := decide_eq_false c11
              clear c11
              have H' := Aside0.mk H
              clear H
              go_wp2
              go_meet
              case rel => exact ⟨_, (false), (by first | rfl | (simp; done) | (simp [*]; done)), H', ⟨by first | omega | exact Nat.le_refl _⟩, ⟨by repeat (first | (with_reducible first | exact HB.out | apply below_alloc | apply pw_below_drewN | apply below_drew1) | exact HB.out)⟩⟩
          · rw [if_neg c10] at H
            have c10b0 : decide (1 ≤ t205) = false := decide_eq_false c10
            clear c10
            have H' := Aside0.mk H
            clear H
            go_wp2
            go_meet
            case rel => exact ⟨_, (false), (by first | rfl | (simp; done) | (simp [*]; done)), H', ⟨by first | omega | exact Nat.le_refl _⟩, ⟨by repeat (first | (with_reducible first | exact HB.out | apply below_alloc | apply pw_below_drewN | apply below_drew1) | exact HB.out)⟩⟩
        · rw [if_neg c9] at H
          have c9b0 : decide (t204 ≤ 10000) = false := decide_eq_false c9
          clear c9
          have H' := Aside0.mk H
          clear H
          go_wp2
          go_meet
          case rel => exact ⟨_, (false), (by first | rfl | (simp; done) | (simp [*]; done)), H', ⟨by first | omega | exact Nat.le_refl _⟩, ⟨by repeat (first | (with_reducible first | exact HB.out | apply below_alloc | apply pw_below_drewN | apply below_drew1) | exact HB.out)⟩⟩
      · rw [if_neg c8] at H
        have c8b0 : decide (0 ≤ t204) = false := decide_eq_false c8
        clear c8
        (first | rw [c8b0] | (simp only [i64_w, i32_w]; rw [c8b0]) | skip)
        have H' := Aside0.mk H
        clear H
        go_wp2
        go_meet
        case rel => exact ⟨_, (false), (by first | rfl | (simp; done) | (simp [*]; done)), H', ⟨by first | omega | exact Nat.le_refl _⟩, ⟨by repeat (first | (with_reducible first | exact HB.out | apply below_alloc | apply pw_below_drewN | apply below_drew1) | exact HB.out)⟩⟩
    case rest =>
      clear HC6
      try clear c1
      try clear c2
      try clear p2
      try clear c3
      try clear p6
      try clear c7
      try clear c8
      try clear c8b0
      try clear c9
      try clear c9b0
      try clear c10
      try clear c10b0
      try clear c11
      try clear c11b0
      try clear c12
      try clear c12b0
      try clear c14
      try clear c14b0
      try clear c16
      try clear c16b0
      try clear c18
      try clear c21
      try clear c21b0
      obtain ⟨kq, x63_5, rfl, HA, HJ5, HB⟩ := hcut
      cases kq with
      | zero => exact absurd HA.out (by simp [laws_FnRelays.j0])
      | succ kj5 =>
        have H := HA.out
        clear HA
        simp only [laws_FnRelays.j0] at H
        by_cases c24 : x63_5 = true
        · subst c24
          have H1 : (some false) = some r := by rw [if_pos rfl] at H; exact H
          clear H
          have H := H1
          clear H1
          obtain rfl := Option.some.inj H
          go_wp2
          go_ret
          exact ⟨by first | rfl | (simp [errW_none, errW_some] <;> rfl) | (simp [*, errW_none, errW_some] <;> rfl), by repeat (first | (with_reducible first | exact HB.out | apply below_alloc | apply pw_below_drewN | apply below_drew1) | exact HB.out)⟩
        · replace c24 := Bool.eq_false_iff.mpr c24
          subst c24
          have H1 : ((spec_DrawTripsFor.f kj5 l0).bind fun bt210 => ((impl_TripsFor.f kj5 bt210.1 bt210.2.1 bt210.2.2.1 bt210.2.2.2).bind fun t214 => (if t214 > 0 then ((impl_SpareAt.f bt210.1 bt210.2.1 bt210.2.2.1).bind fun t215 => (if (wrap64 (t214 * t215)) < bt210.2.2.2 then (laws_FnRelays.j1 kj5 l0 true) else ((impl_SpareAt.f bt210.1 bt210.2.1 bt210.2.2.1).bind fun t216 => (if (wrap64 ((wrap64 (t214 - 1)) * t216)) ≥ bt210.2.2.2 then (laws_FnRelays.j1 kj5 l0 true) else (if t214 = 0 then (laws_FnRelays.j1 kj5 l0 (bt210.2.2.2 != 0)) else (laws_FnRelays.j1 kj5 l0 false)))))) else (if t214 = 0 then (laws_FnRelays.j1 kj5 l0 (bt210.2.2.2 != 0)) else (laws_FnRelays.j1 kj5 l0 false))))) = some r := by rw [if_neg (show ¬ (false = true) by decide)] at H; exact H
          clear H
          have H := H1
          clear H1
          replace H := Option.bind_eq_some_iff.mp H
          obtain ⟨⟨t210, t211, t212, t213⟩, A250, H⟩ := H
          replace H : ((impl_TripsFor.f kj5 t210 t211 t212 t213).bind fun t214 => (if t214 > 0 then ((impl_SpareAt.f t210 t211 t212).bind fun t215 => (if (wrap64 (t214 * t215)) < t213 then (laws_FnRelays.j1 kj5 l0 true) else ((impl_SpareAt.f t210 t211 t212).bind fun t216 => (if (wrap64 ((wrap64 (t214 - 1)) * t216)) ≥ t213 then (laws_FnRelays.j1 kj5 l0 true) else (if t214 = 0 then (laws_FnRelays.j1 kj5 l0 (t213 != 0)) else (laws_FnRelays.j1 kj5 l0 false)))))) else (if t214 = 0 then (laws_FnRelays.j1 kj5 l0 (t213 != 0)) else (laws_FnRelays.j1 kj5 l0 false)))) = some r := H
          have A25 := Aside0.mk A250
          clear A250
          replace H := Option.bind_eq_some_iff.mp H
          obtain ⟨t214, A260, H⟩ := H
          replace H : (if t214 > 0 then ((impl_SpareAt.f t210 t211 t212).bind fun t215 => (if (wrap64 (t214 * t215)) < t213 then (laws_FnRelays.j1 kj5 l0 true) else ((impl_SpareAt.f t210 t211 t212).bind fun t216 => (if (wrap64 ((wrap64 (t214 - 1)) * t216)) ≥ t213 then (laws_FnRelays.j1 kj5 l0 true) else (if t214 = 0 then (laws_FnRelays.j1 kj5 l0 (t213 != 0)) else (laws_FnRelays.j1 kj5 l0 false)))))) else (if t214 = 0 then (laws_FnRelays.j1 kj5 l0 (t213 != 0)) else (laws_FnRelays.j1 kj5 l0 false))) = some r := H
          have A26 := Aside0.mk A260
          clear A260
          have HC27 := Aside0.mk H
          clear H
          go_upto_region 9 with (first | ((with_reducible refine gate_callee (f := 34) rfl ?_); refine goesL_ (some 66) rfl rfl Try.func34 (by kernel_rfl) rfl #[.slice A0 l0.length c0] rfl (by (try simp only [List.map_toArray, List.map_cons, List.map_nil]); first | done | rfl | (simp only [List.length_drop, List.length_take]; rfl)) ?_; (with_reducible refine (spec_DrawTripsFor.calls kj5 _ _ l0 t210 t211 t212 t213 _ ?side1 ?side2 A25.out).mono ?_); (case side1 => repeat (first | exact (Kd.C_below HR0.out HB.out) | (with_reducible refine Kd.C_alloc ?_ _) | (with_reducible refine Kd.C_drewN ?_ _) | (with_reducible refine Kd.C_drew ?_))); (case side2 => exact HC0.out); rintro e w28 ⟨rfl, hb⟩; refine ⟨_, rfl, ?_⟩; have n0_ := Aside0.mk (below_step (by repeat (first | (with_reducible first | exact HB.out | apply below_alloc | apply pw_below_drewN | apply below_drew1) | exact HB.out)) hb); clear HB; have HB := n0_; clear n0_; (try clear hb); (try clear hb2); (try clear hk); (try clear hi)) | ((with_reducible refine gate_callee (f := 35) rfl ?_); refine goesL_ (some 75) rfl rfl Try.func35 (by kernel_rfl) rfl #[.int .i64 t210, .int .i64 t211, .int .i64 t212, .int .i64 t213] rfl (by (try simp only [List.map_toArray, List.map_cons, List.map_nil]); first | done | rfl | (simp only [List.length_drop, List.length_take]; rfl)) ?_; (with_reducible refine (impl_TripsFor.calls kj5 t210 t211 t212 t213 t214 _ A26.out).mono ?_); rintro e w29 ⟨rfl, hb⟩; refine ⟨_, rfl, ?_⟩; have n0_ := Aside0.mk (below_step (by repeat (first | (with_reducible first | exact HB.out | apply below_alloc | apply pw_below_drewN | apply below_drew1) | exact HB.out)) hb); clear HB; have HB := n0_; clear n0_; (try clear hb); (try clear hb2); (try clear hk); (try clear hi)))
          (try simp only [Act.put, List.setIfInBounds_toArray, List.set_cons_zero, List.set_cons_succ])
          go_cut [106] (fun v106 wc => ∃ (kq : Nat) (x106_26 : Bool), v106 = .bool x106_26 ∧ Aside0 (laws_FnRelays.j1 kq l0 x106_26 = some r) ∧ Aside0 (kq ≤ kj5) ∧ Aside0 (Below w.heap.size w wc))
          case first =>
            have H := HC27.out
            clear HC27
            by_cases c30 : t214 > 0
            · rw [if_pos c30] at H
              have c30b0 : decide (0 < t214) = true := decide_eq_true c30
              clear c30
              (first | rw [c30b0] | (simp only [i64_w, i32_w]; rw [c30b0]) | skip)
              replace H := Option.bind_eq_some_iff.mp H
              obtain ⟨t215, A310, H⟩ := H
              replace H : (if (wrap64 (t214 * t215)) < t213 then (laws_FnRelays.j1 kj5 l0 true) else ((impl_SpareAt.f t210 t211 t212).bind fun t216 => (if (wrap64 ((wrap64 (t214 - 1)) * t216)) ≥ t213 then (laws_FnRelays.j1 kj5 l0 true) else (if t214 = 0 then (laws_FnRelays.j1 kj5 l0 (t213 != 0)) else (laws_FnRelays.j1 kj5 l0 false))))) = some r := H
              have A31 := Aside0.mk A310
              clear A310
              by_cases c32 : (wrap64 (t214 * t215)) < t213
              · rw [if_pos c32] at H
                have c32b0 : decide ((wrap64 (t214 * t215)) < t213) = true := decide_eq_true c32
                clear c32
                have H' := Aside0.mk H
                clear H
                go_wp2_with (first | (go_at_call 33; (with_reducible refine (impl_SpareAt.calls t210 t211 t212 t215 _ A31.out).mono ?_); rintro e w33 ⟨rfl, hb⟩; have n0_ := Aside0.mk (below_step (by repeat (first | (with_reducible first | exact HB.out | apply below_alloc | apply pw_below_drewN | apply below_drew1) | exact HB.out)) hb); clear HB; have HB := n0_; clear n0_; (try clear hb); (try clear hb2); (try clear hk); (try clear hi)))
                go_meet
                case rel => exact ⟨_, (true), (by first | rfl | (simp; done) | (simp [*]; done)), H', ⟨by have := HJ5.out; first | omega | exact Nat.le_refl _⟩, ⟨by repeat (first | (with_reducible first | exact HB.out | apply below_alloc | apply pw_below_drewN | apply below_drew1) | exact HB.out)⟩⟩
              · rw [if_neg c32] at H
                have c32b0 : decide ((wrap64 (t214 * t215)) < t213) = false := decide_eq_false c32
                clear c32
                replace H := Option.bind_eq_some_iff.mp H
                obtain ⟨t216, A340, H⟩ := H
                replace H : (if (wrap64 ((wrap64 (t214 - 1)) * t216)) ≥ t213 then (laws_FnRelays.j1 kj5 l0 true) else (if t214 = 0 then (laws_FnRelays.j1 kj5 l0 (t213 != 0)) else (laws_FnRelays.j1 kj5 l0 false))) = some r := H
                have A34 := Aside0.mk A340
                clear A340
                obtain rfl : t215 = t216 := Option.some.inj (A31.out.symm.trans A34.out)
                by_cases c35 : (wrap64 ((wrap64 (t214 - 1)) * t215)) ≥ t213
                · rw [if_pos c35] at H
                  have c35b0 : decide (t213 ≤ (wrap64 ((wrap64 (t214 - 1)) * t215))) = true := decide_eq_true c35
                  clear c35
                  have H' := Aside0.mk H
                  clear H
                  go_wp2_with (first | (go_at_call 33; (with_reducible refine (impl_SpareAt.calls t210 t211 t212 t215 _ A31.out).mono ?_); rintro e w36 ⟨rfl, hb⟩; have n0_ := Aside0.mk (below_step (by repeat (first | (with_reducible first | exact HB.out | apply below_alloc | apply pw_below_drewN | apply below_drew1) | exact HB.out)) hb); clear HB; have HB := n0_; clear n0_; (try clear hb); (try clear hb2); (try clear hk); (try clear hi)) | (go_at_call 33; (with_reducible refine (impl_SpareAt.calls t210 t211 t212 t215 _ A34.out).mono ?_); rintro e w37 ⟨rfl, hb⟩; have n0_ := Aside0.mk (below_step (by repeat (first | (with_reducible first | exact HB.out | apply below_alloc | apply pw_below_drewN | apply below_drew1) | exact HB.out)) hb); clear HB; have HB := n0_; clear n0_; (try clear hb); (try clear hb2); (try clear hk); (try clear hi)))
                  go_meet
                  case rel => exact ⟨_, (true), (by first | rfl | (simp; done) | (simp [*]; done)), H', ⟨by have := HJ5.out; first | omega | exact Nat.le_refl _⟩, ⟨by repeat (first | (with_reducible first | exact HB.out | apply below_alloc | apply pw_below_drewN | apply below_drew1) | exact HB.out)⟩⟩
                · rw [if_neg c35] at H
                  have c35b0 : decide (t213 ≤ (wrap64 ((wrap64 (t214 - 1)) * t215))) = false := decide_eq_false c35
                  clear c35
                  by_cases c38 : t214 = 0
                  · rw [if_pos c38] at H
                    have c38b0 : (t214 == 0) = true := beq_iff_eq.mpr c38
                    have c38b1 : (t214 != 0) = false := bne_eq_false_iff_eq.mpr c38
                    clear c38
                    have H' := Aside0.mk H
                    clear H
                    go_wp2_with (first | (go_at_call 33; (with_reducible refine (impl_SpareAt.calls t210 t211 t212 t215 _ A31.out).mono ?_); rintro e w39 ⟨rfl, hb⟩; have n0_ := Aside0.mk (below_step (by repeat (first | (with_reducible first | exact HB.out | apply below_alloc | apply pw_below_drewN | apply below_drew1) | exact HB.out)) hb); clear HB; have HB := n0_; clear n0_; (try clear hb); (try clear hb2); (try clear hk); (try clear hi)) | (go_at_call 33; (with_reducible refine (impl_SpareAt.calls t210 t211 t212 t215 _ A34.out).mono ?_); rintro e w40 ⟨rfl, hb⟩; have n0_ := Aside0.mk (below_step (by repeat (first | (with_reducible first | exact HB.out | apply below_alloc | apply pw_below_drewN | apply below_drew1) | exact HB.out)) hb); clear HB; have HB := n0_; clear n0_; (try clear hb); (try clear hb2); (try clear hk); (try clear hi)))
                    go_meet
                    case rel => exact ⟨_, ((t213 != 0)), (by first | rfl | (simp; done) | (simp [*]; done)), H', ⟨by have := HJ5.out; first | omega | exact Nat.le_refl _⟩, ⟨by repeat (first | (with_reducible first | exact HB.out | apply below_alloc | apply pw_below_drewN | apply below_drew1) | exact HB.out)⟩⟩
                  · rw [if_neg c38] at H
                    have c38b0 : (t214 == 0) = false := beq_eq_false_iff_ne.mpr c38
                    have c38b1 : (t214 != 0) = true := bne_iff_ne.mpr c38
                    have H' := Aside0.mk H
                    clear H
                    go_wp2_with (first | (go_at_call 33; (with_reducible refine (impl_SpareAt.calls t210 t211 t212 t215 _ A31.out).mono ?_); rintro e w41 ⟨rfl, hb⟩; have n0_ := Aside0.mk (below_step (by repeat (first | (with_reducible first | exact HB.out | apply below_alloc | apply pw_below_drewN | apply below_drew1) | exact HB.out)) hb); clear HB; have HB := n0_; clear n0_; (try clear hb); (try clear hb2); (try clear hk); (try clear hi)) | (go_at_call 33; (with_reducible refine (impl_SpareAt.calls t210 t211 t212 t215 _ A34.out).mono ?_); rintro e w42 ⟨rfl, hb⟩; have n0_ := Aside0.mk (below_step (by repeat (first | (with_reducible first | exact HB.out | apply below_alloc | apply pw_below_drewN | apply below_drew1) | exact HB.out)) hb); clear HB; have HB := n0_; clear n0_; (try clear hb); (try clear hb2); (try clear hk); (try clear hi)))
                    go_meet
                    case rel => exact ⟨_, (false), (by first | rfl | (simp; done) | (simp [*]; done)), H', ⟨by have := HJ5.out; first | omega | exact Nat.le_refl _⟩, ⟨by repeat (first | (with_reducible first | exact HB.out | apply below_alloc | apply pw_below_drewN | apply below_drew1) | exact HB.out)⟩⟩
            · rw [if_neg c30] at H
              have c30b0 : decide (0 < t214) = false := decide_eq_false c30
              clear c30
              (first | rw [c30b0] | (simp only [i64_w, i32_w]; rw [c30b0]) | skip)
              by_cases c43 : t214 = 0
              · rw [if_pos c43] at H
                have c43b0 : (t214 == 0) = true := beq_iff_eq.mpr c43
                have c43b1 : (t214 != 0) = false := bne_eq_false_iff_eq.mpr c43
                clear c43
                have H' := Aside0.mk H
                clear H
                go_wp2
                go_meet
                case rel => exact ⟨_, ((t213 != 0)), (by first | rfl | (simp; done) | (simp [*]; done)), H', ⟨by have := HJ5.out; first | omega | exact Nat.le_refl _⟩, ⟨by repeat (first | (with_reducible first | exact HB.out | apply below_alloc | apply pw_below_drewN | apply below_drew1) | exact HB.out)⟩⟩
              · rw [if_neg c43] at H
                have c43b0 : (t214 == 0) = false := beq_eq_false_iff_ne.mpr c43
                have c43b1 : (t214 != 0) = true := bne_iff_ne.mpr c43
                have H' := Aside0.mk H
                clear H
                go_wp2
                go_meet
                case rel => exact ⟨_, (false), (by first | rfl | (simp; done) | (simp [*]; done)), H', ⟨by have := HJ5.out; first | omega | exact Nat.le_refl _⟩, ⟨by repeat (first | (with_reducible first | exact HB.out | apply below_alloc | apply pw_below_drewN | apply below_drew1) | exact HB.out)⟩⟩
          case rest =>
            clear HC27
            try clear c1
            try clear c2
            try clear p2
            try clear c3
            try clear c4
            try clear p6
            try clear c7
            try clear c8
            try clear c8b0
            try clear c9
            try clear c9b0
            try clear c10
            try clear c10b0
            try clear c11
            try clear c11b0
            try clear c12
            try clear c12b0
            try clear c14
            try clear c14b0
            try clear c16
            try clear c16b0
            try clear c18
            try clear c21
            try clear c21b0
            try clear c24
            try clear c30
            try clear c30b0
            try clear c31
            try clear c32
            try clear c32b0
            try clear c34
            try clear c35
            try clear c35b0
            try clear c38
            try clear c38b0
            try clear c38b1
            try clear c43
            try clear c43b0
            try clear c43b1
            try clear p2
            try clear p6
            obtain ⟨kq, x106_26, rfl, HA, HJ26, HB⟩ := hcut
            cases kq with
            | zero => exact absurd HA.out (by simp [laws_FnRelays.j1])
            | succ kj26 =>
              have H := HA.out
              clear HA
              simp only [laws_FnRelays.j1] at H
              by_cases c44 : x106_26 = true
              · subst c44
                have H1 : (some false) = some r := by rw [if_pos rfl] at H; exact H
                clear H
                have H := H1
                clear H1
                obtain rfl := Option.some.inj H
                go_wp2
                go_ret
                exact ⟨by first | rfl | (simp [errW_none, errW_some] <;> rfl) | (simp [*, errW_none, errW_some] <;> rfl), by repeat (first | (with_reducible first | exact HB.out | apply below_alloc | apply pw_below_drewN | apply below_drew1) | exact HB.out)⟩
              · replace c44 := Bool.eq_false_iff.mpr c44
                subst c44
                have H1 : ((spec_DrawFarthestBy.f kj26 l0).bind fun bt217 => ((impl_FarthestBy.f kj26 bt217.1 bt217.2.1 bt217.2.2).bind fun t220 => (if t220 ≥ 0 then ((impl_OutDays.f bt217.1 bt217.2.1).bind fun t221 => (if t220 < t221 then (laws_FnRelays.j2 kj26 l0 true) else (if bt217.2.2 > 0 then ((impl_FarthestBy.f kj26 bt217.1 bt217.2.1 (wrap64 (bt217.2.2 - 1))).bind fun t222 => (laws_FnRelays.j2 kj26 l0 (decide (t220 < t222)))) else (laws_FnRelays.j2 kj26 l0 false)))) else (laws_FnRelays.j2 kj26 l0 false)))) = some r := by rw [if_neg (show ¬ (false = true) by decide)] at H; exact H
                clear H
                have H := H1
                clear H1
                replace H := Option.bind_eq_some_iff.mp H
                obtain ⟨⟨t217, t218, t219⟩, A450, H⟩ := H
                replace H : ((impl_FarthestBy.f kj26 t217 t218 t219).bind fun t220 => (if t220 ≥ 0 then ((impl_OutDays.f t217 t218).bind fun t221 => (if t220 < t221 then (laws_FnRelays.j2 kj26 l0 true) else (if t219 > 0 then ((impl_FarthestBy.f kj26 t217 t218 (wrap64 (t219 - 1))).bind fun t222 => (laws_FnRelays.j2 kj26 l0 (decide (t220 < t222)))) else (laws_FnRelays.j2 kj26 l0 false)))) else (laws_FnRelays.j2 kj26 l0 false))) = some r := H
                have A45 := Aside0.mk A450
                clear A450
                replace H := Option.bind_eq_some_iff.mp H
                obtain ⟨t220, A460, H⟩ := H
                replace H : (if t220 ≥ 0 then ((impl_OutDays.f t217 t218).bind fun t221 => (if t220 < t221 then (laws_FnRelays.j2 kj26 l0 true) else (if t219 > 0 then ((impl_FarthestBy.f kj26 t217 t218 (wrap64 (t219 - 1))).bind fun t222 => (laws_FnRelays.j2 kj26 l0 (decide (t220 < t222)))) else (laws_FnRelays.j2 kj26 l0 false)))) else (laws_FnRelays.j2 kj26 l0 false)) = some r := H
                have A46 := Aside0.mk A460
                clear A460
                have HC47 := Aside0.mk H
                clear H
                go_upto_region 13 with (first | ((with_reducible refine gate_callee (f := 36) rfl ?_); refine goesL_ (some 109) rfl rfl Try.func36 (by kernel_rfl) rfl #[.slice A0 l0.length c0] rfl (by (try simp only [List.map_toArray, List.map_cons, List.map_nil]); first | done | rfl | (simp only [List.length_drop, List.length_take]; rfl)) ?_; (with_reducible refine (spec_DrawFarthestBy.calls kj26 _ _ l0 t217 t218 t219 _ ?side1 ?side2 A45.out).mono ?_); (case side1 => repeat (first | exact (Kd.C_below HR0.out HB.out) | (with_reducible refine Kd.C_alloc ?_ _) | (with_reducible refine Kd.C_drewN ?_ _) | (with_reducible refine Kd.C_drew ?_))); (case side2 => exact HC0.out); rintro e w48 ⟨rfl, hb⟩; refine ⟨_, rfl, ?_⟩; have n0_ := Aside0.mk (below_step (by repeat (first | (with_reducible first | exact HB.out | apply below_alloc | apply pw_below_drewN | apply below_drew1) | exact HB.out)) hb); clear HB; have HB := n0_; clear n0_; (try clear hb); (try clear hb2); (try clear hk); (try clear hi)) | ((with_reducible refine gate_callee (f := 37) rfl ?_); refine goesL_ (some 116) rfl rfl Try.func37 (by kernel_rfl) rfl #[.int .i64 t217, .int .i64 t218, .int .i64 t219] rfl (by (try simp only [List.map_toArray, List.map_cons, List.map_nil]); first | done | rfl | (simp only [List.length_drop, List.length_take]; rfl)) ?_; (with_reducible refine (impl_FarthestBy.calls kj26 t217 t218 t219 t220 _ A46.out).mono ?_); rintro e w49 ⟨rfl, hb⟩; refine ⟨_, rfl, ?_⟩; have n0_ := Aside0.mk (below_step (by repeat (first | (with_reducible first | exact HB.out | apply below_alloc | apply pw_below_drewN | apply below_drew1) | exact HB.out)) hb); clear HB; have HB := n0_; clear n0_; (try clear hb); (try clear hb2); (try clear hk); (try clear hi)))
                (try simp only [Act.put, List.setIfInBounds_toArray, List.set_cons_zero, List.set_cons_succ])
                go_cut [138] (fun v138 wc => ∃ (kq : Nat) (x138_46 : Bool), v138 = .bool x138_46 ∧ Aside0 (laws_FnRelays.j2 kq l0 x138_46 = some r) ∧ Aside0 (kq ≤ kj26) ∧ Aside0 (Below w.heap.size w wc))
                case first =>
                  have H := HC47.out
                  clear HC47
                  by_cases c50 : t220 ≥ 0
                  · rw [if_pos c50] at H
                    have c50b0 : decide (0 ≤ t220) = true := decide_eq_true c50
                    clear c50
                    (first | rw [c50b0] | (simp only [i64_w, i32_w]; rw [c50b0]) | skip)
                    replace H := Option.bind_eq_some_iff.mp H
                    obtain ⟨t221, A510, H⟩ := H
                    replace H : (if t220 < t221 then (laws_FnRelays.j2 kj26 l0 true) else (if t219 > 0 then ((impl_FarthestBy.f kj26 t217 t218 (wrap64 (t219 - 1))).bind fun t222 => (laws_FnRelays.j2 kj26 l0 (decide (t220 < t222)))) else (laws_FnRelays.j2 kj26 l0 false))) = some r := H
                    have A51 := Aside0.mk A510
                    clear A510
                    by_cases c52 : t220 < t221
                    · rw [if_pos c52] at H
                      have c52b0 : decide (t220 < t221) = true := decide_eq_true c52
                      clear c52
                      have H' := Aside0.mk H
                      clear H
                      go_wp2_with (first | (go_at_call 32; (with_reducible refine (impl_OutDays.calls t217 t218 t221 _ A51.out).mono ?_); rintro e w' ⟨rfl, ⟨nd, rfl⟩⟩))
                      go_meet
                      case rel => exact ⟨_, (true), (by first | rfl | (simp; done) | (simp [*]; done)), H', ⟨by have := HJ5.out; have := HJ26.out; first | omega | exact Nat.le_refl _⟩, ⟨by repeat (first | (with_reducible first | exact HB.out | apply below_alloc | apply pw_below_drewN | apply below_drew1) | exact HB.out)⟩⟩
                    · rw [if_neg c52] at H
                      have c52b0 : decide (t220 < t221) = false := decide_eq_false c52
                      clear c52
                      by_cases c53 : t219 > 0
                      · rw [if_pos c53] at H
                        have c53b0 : decide (0 < t219) = true := decide_eq_true c53
                        clear c53
                        replace H := Option.bind_eq_some_iff.mp H
                        obtain ⟨t222, A540, H⟩ := H
                        replace H : (laws_FnRelays.j2 kj26 l0 (decide (t220 < t222))) = some r := H
                        have A54 := Aside0.mk A540
                        clear A540
                        have H' := Aside0.mk H
                        clear H
                        go_wp2_with (first | (go_at_call 32; (with_reducible refine (impl_OutDays.calls t217 t218 t221 _ A51.out).mono ?_); rintro e w' ⟨rfl, ⟨nd, rfl⟩⟩) | (go_at_call 37; (with_reducible refine (impl_FarthestBy.calls kj26 t217 t218 (wrap64 (t219 - 1)) t222 _ A54.out).mono ?_); rintro e w55 ⟨rfl, hb⟩; have n0_ := Aside0.mk (below_step (by repeat (first | (with_reducible first | exact HB.out | apply below_alloc | apply pw_below_drewN | apply below_drew1) | exact HB.out)) hb); clear HB; have HB := n0_; clear n0_; (try clear hb); (try clear hb2); (try clear hk); (try clear hi)))
                        go_meet
                        case rel => exact ⟨_, (decide (t220 < t222)), (by first | rfl | (simp; done) | (simp [*]; done)), H', ⟨by have := HJ5.out; have := HJ26.out; first | omega | exact Nat.le_refl _⟩, ⟨by repeat (first | (with_reducible first | exact HB.out | apply below_alloc | apply pw_below_drewN | apply below_drew1) | exact HB.out)⟩⟩
                      · rw [if_neg c53] at H
                        have c53b0 : decide (0 < t219) = false := decide_eq_false c53
                        clear c53
                        have H' := Aside0.mk H
                        clear H
                        go_wp2_with (first | (go_at_call 32; (with_reducible refine (impl_OutDays.calls t217 t218 t221 _ A51.out).mono ?_); rintro e w' ⟨rfl, ⟨nd, rfl⟩⟩))
                        go_meet
                        case rel => exact ⟨_, (false), (by first | rfl | (simp; done) | (simp [*]; done)), H', ⟨by have := HJ5.out; have := HJ26.out; first | omega | exact Nat.le_refl _⟩, ⟨by repeat (first | (with_reducible first | exact HB.out | apply below_alloc | apply pw_below_drewN | apply below_drew1) | exact HB.out)⟩⟩
                  · rw [if_neg c50] at H
                    have c50b0 : decide (0 ≤ t220) = false := decide_eq_false c50
                    clear c50
                    (first | rw [c50b0] | (simp only [i64_w, i32_w]; rw [c50b0]) | skip)
                    have H' := Aside0.mk H
                    clear H
                    go_wp2
                    go_meet
                    case rel => exact ⟨_, (false), (by first | rfl | (simp; done) | (simp [*]; done)), H', ⟨by have := HJ5.out; have := HJ26.out; first | omega | exact Nat.le_refl _⟩, ⟨by repeat (first | (with_reducible first | exact HB.out | apply below_alloc | apply pw_below_drewN | apply below_drew1) | exact HB.out)⟩⟩
                case rest =>
                  clear HC47
                  try clear c1
                  try clear c2
                  try clear p2
                  try clear c3
                  try clear c4
                  try clear c5
                  try clear p6
                  try clear c7
                  try clear c8
                  try clear c8b0
                  try clear c9
                  try clear c9b0
                  try clear c10
                  try clear c10b0
                  try clear c11
                  try clear c11b0
                  try clear c12
                  try clear c12b0
                  try clear c14
                  try clear c14b0
                  try clear c16
                  try clear c16b0
                  try clear c18
                  try clear c21
                  try clear c21b0
                  try clear c24
                  try clear c30
                  try clear c30b0
                  try clear c31
                  try clear c32
                  try clear c32b0
                  try clear c34
                  try clear c35
                  try clear c35b0
                  try clear c36
                  try clear c37
                  try clear c38
                  try clear c38b0
                  try clear c38b1
                  try clear c43
                  try clear c43b0
                  try clear c43b1
                  try clear c44
                  try clear c50
                  try clear c50b0
                  try clear c52
                  try clear c52b0
                  try clear c53
                  try clear c53b0
                  try clear p2
                  try clear p6
                  obtain ⟨kq, x138_46, rfl, HA, HJ46, HB⟩ := hcut
                  cases kq with
                  | zero => exact absurd HA.out (by simp [laws_FnRelays.j2])
                  | succ kj46 =>
                    have H := HA.out
                    clear HA
                    simp only [laws_FnRelays.j2] at H
                    by_cases c56 : x138_46 = true
                    · subst c56
                      have H1 : (some false) = some r := by rw [if_pos rfl] at H; exact H
                      clear H
                      have H := H1
                      clear H1
                      obtain rfl := Option.some.inj H
                      go_wp2
                      go_ret
                      exact ⟨by first | rfl | (simp [errW_none, errW_some] <;> rfl) | (simp [*, errW_none, errW_some] <;> rfl), by repeat (first | (with_reducible first | exact HB.out | apply below_alloc | apply pw_below_drewN | apply below_drew1) | exact HB.out)⟩
                    · replace c56 := Bool.eq_false_iff.mpr c56
                      subst c56
                      have H1 : ((spec_DrawFoodEaten.f kj46 l0).bind fun bt223 => ((impl_FoodEaten.f bt223.1 bt223.2).bind fun t225 => (some (decide (t225 ≥ 0))))) = some r := by rw [if_neg (show ¬ (false = true) by decide)] at H; exact H
                      clear H
                      have H := H1
                      clear H1
                      replace H := Option.bind_eq_some_iff.mp H
                      obtain ⟨⟨t223, t224⟩, A570, H⟩ := H
                      replace H : ((impl_FoodEaten.f t223 t224).bind fun t225 => (some (decide (t225 ≥ 0)))) = some r := H
                      have A57 := Aside0.mk A570
                      clear A570
                      replace H := Option.bind_eq_some_iff.mp H
                      obtain ⟨t225, A580, H⟩ := H
                      replace H : (some (decide (t225 ≥ 0))) = some r := H
                      have A58 := Aside0.mk A580
                      clear A580
                      obtain rfl := Option.some.inj H
                      go_wp2_with (first | ((with_reducible refine gate_callee (f := 38) rfl ?_); refine goesL_ (some 141) rfl rfl Try.func38 (by kernel_rfl) rfl #[.slice A0 l0.length c0] rfl (by (try simp only [List.map_toArray, List.map_cons, List.map_nil]); first | done | rfl | (simp only [List.length_drop, List.length_take]; rfl)) ?_; (with_reducible refine (spec_DrawFoodEaten.calls kj46 _ _ l0 t223 t224 _ ?side1 ?side2 A57.out).mono ?_); (case side1 => repeat (first | exact (Kd.C_below HR0.out HB.out) | (with_reducible refine Kd.C_alloc ?_ _) | (with_reducible refine Kd.C_drewN ?_ _) | (with_reducible refine Kd.C_drew ?_))); (case side2 => exact HC0.out); rintro e w59 ⟨rfl, hb⟩; refine ⟨_, rfl, ?_⟩; have n0_ := Aside0.mk (below_step (by repeat (first | (with_reducible first | exact HB.out | apply below_alloc | apply pw_below_drewN | apply below_drew1) | exact HB.out)) hb); clear HB; have HB := n0_; clear n0_; (try clear hb); (try clear hb2); (try clear hk); (try clear hi)) | ((with_reducible refine gate_callee (f := 39) rfl ?_); refine goesL_ (some 146) rfl rfl Try.func39 (by kernel_rfl) rfl #[.int .i64 t223, .int .i64 t224] rfl (by (try simp only [List.map_toArray, List.map_cons, List.map_nil]); first | done | rfl | (simp only [List.length_drop, List.length_take]; rfl)) ?_; (with_reducible refine (impl_FoodEaten.calls t223 t224 t225 _ A58.out).mono ?_); rintro e w' ⟨rfl, ⟨nd, rfl⟩⟩; refine ⟨_, rfl, ?_⟩))
                      go_ret
                      exact ⟨by first | rfl | (simp [errW_none, errW_some] <;> rfl) | (simp [*, errW_none, errW_some] <;> rfl), by repeat (first | (with_reducible first | exact HB.out | apply below_alloc | apply pw_below_drewN | apply below_drew1) | exact HB.out)⟩

/-- THE ONE PURE STATEMENT of laws_FnRelays: yours. -/
def laws_FnRelays.Pure : Prop := ∀ (l0 : List Int), l0.length ≤ maxLen → l0.length * 1 ≤ 140737488351232 → (∀ x ∈ l0, (Lit.int .u8 x).wf = true) → ∃ k, laws_FnRelays.f k l0 = some true
theorem laws_FnRelays.walk (P : laws_FnRelays.Pure) (a0 : Option Addr) (len0 cap0 : Nat) (z0 : List Int) (w : World) (w0 : (a0 = none ∧ len0 = 0 ∧ cap0 = 0 ∧ z0 = []) ∨ ∃ x, a0 = some x ∧ len0 ≤ cap0 ∧ cap0 ≤ maxLen ∧ z0.length = cap0 ∧ (∀ i, i < z0.length → w.cell? (x.add i) = some (.int .u8 (z0.getD i 0))) ∧ ∀ n ∈ z0, (Lit.int .u8 n).wf = true) (y0 : len0 * 1 ≤ 140737488351232) :
    Calls Try.prog 7 #[.slice a0 len0 cap0] w fun e w' => e = .returned (.bool true) ∧ Below w.heap.size w w' := by
  obtain ⟨l0, rfl, hr0, hm0, hw0, hc0⟩ := ReadsInt.ofRowC w0
  obtain ⟨k, h⟩ := P l0 hm0 y0 hw0
  refine (laws_FnRelays.calls k _ _ l0 true w (Kd.C_of_reads (d := (0 : Int)) (h1 := fun _ => rfl) hr0) hc0 h).mono ?_
  rintro e w' ⟨rfl, hd⟩
  exact ⟨rfl, hd⟩

end Go.Proofs.Ytkdclkbgejbgjac.PFnRelays
