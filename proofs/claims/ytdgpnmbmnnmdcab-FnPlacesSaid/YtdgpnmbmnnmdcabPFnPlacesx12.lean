/- Contracts of Go functions: what print.sh prints, written shorter by short.py. -/
import Derived.Test.YtdgpnmbmnnmdcabUp
import Derived.Test.YtdgpnmbmnnmdcabPFnPlacesx0
import Derived.Test.YtdgpnmbmnnmdcabPFnPlacesx1
import Derived.Test.YtdgpnmbmnnmdcabPFnPlacesx2
import Derived.Test.YtdgpnmbmnnmdcabPFnPlacesx4
import Derived.Test.YtdgpnmbmnnmdcabPFnPlacesx5
import Derived.Test.YtdgpnmbmnnmdcabPFnPlacesx10
import Derived.Test.YtdgpnmbmnnmdcabPFnPlacesx11
namespace Go.Proofs.Ytdgpnmbmnnmdcab.PFnPlaces
open Go.RowKit Go.Proofs.YtdgpnmbmnnmdcabW.PrintWords Go.Proofs.YtdgpnmbmnnmdcabW.PrintLast Go.Proofs.YtdgpnmbmnnmdcabW.PrintMore
attribute [local go_sem] max2_int min2_int max_two min_two max_three min_three max_four min_four   -- for this text's walks alone
set_option linter.unusedVariables false
set_option linter.unusedSimpArgs false

/-! ### laws_FnPlaces: function 5 -/
mutual
def laws_FnPlaces.j0 : Nat → List Int → List Int → List Int → List Int → List Int → Bool → Int → Int → List Int → Option (Bool)
 | 0, _, _, _, _, _, _, _, _, _ => none
 | k + 1, x0, x6, x7, x8, x9, x58, x464000, x464001, x464002 => if x58 = true then (some false) else (laws_FnPlaces.l0 k x0 x6 x7 x8 x9 0 x464000 x464001 x464002)
def laws_FnPlaces.l0 : Nat → List Int → List Int → List Int → List Int → List Int → Int → Int → Int → List Int → Option (Bool)
 | 0, _, _, _, _, _, _, _, _, _ => none
 | k + 1, x0, x6, x7, x8, x9, x10, x464000, x464001, x464002 => if x10 < (x8.length : Int) then (laws_FnPlaces.j2 k x0 x6 x7 x8 x9 x10 ((x6.length : Int) == (x7.length : Int)) x464000 x464001 x464002) else (laws_FnPlaces.j2 k x0 x6 x7 x8 x9 x10 false x464000 x464001 x464002)
def laws_FnPlaces.j2 : Nat → List Int → List Int → List Int → List Int → List Int → Int → Bool → Int → Int → List Int → Option (Bool)
 | 0, _, _, _, _, _, _, _, _, _, _ => none
 | k + 1, x0, x6, x7, x8, x9, x10, x69, x464000, x464001, x464002 => if x69 = true then (laws_FnPlaces.l1 k x0 x6 x7 x8 x9 x10 true 0 x464000 x464001 x464002) else ((spec_DrawCanBe.f k x0).bind fun bt479 => ((impl_CanBe.f k bt479.1 bt479.2.1 bt479.2.2.1 bt479.2.2.2.1 bt479.2.2.2.2).bind fun t489 => (laws_FnPlaces.l2 k x9 bt479.2.2.2.1 bt479.2.2.2.2 t489 0 bt479.1 bt479.2.1 bt479.2.2.1)))
def laws_FnPlaces.l1 : Nat → List Int → List Int → List Int → List Int → List Int → Int → Bool → Int → Int → Int → List Int → Option (Bool)
 | 0, _, _, _, _, _, _, _, _, _, _, _ => none
 | k + 1, x0, x6, x7, x8, x9, x10, x11, x12, x464000, x464001, x464002 => if x12 < (x6.length : Int) then (if x11 = true then (if 0 ≤ x12 then (if 0 ≤ x10 then (if x10 < (x8.length : Int) then ((impl_Apart.f k x464000 x464001 x464002 (rd x6 x12) (rd x8 x10)).bind fun t474 => (if x12 < (x7.length : Int) then (if t474 = (rd x7 x12) then (laws_FnPlaces.l1 k x0 x6 x7 x8 x9 x10 (decide ((rd x7 x12) ≥ 0)) (wrap64 (x12 + 1)) x464000 x464001 x464002) else (laws_FnPlaces.l1 k x0 x6 x7 x8 x9 x10 false (wrap64 (x12 + 1)) x464000 x464001 x464002)) else (none))) else (none)) else (none)) else (none)) else (laws_FnPlaces.l1 k x0 x6 x7 x8 x9 x10 false (wrap64 (x12 + 1)) x464000 x464001 x464002)) else (if 0 ≤ x10 then (if x10 < (x8.length : Int) then ((laws_contains.f k x9 (rd x8 x10)).bind fun t478 => (if (x11 != t478) = true then (some false) else (laws_FnPlaces.l0 k x0 x6 x7 x8 x9 (wrap64 (x10 + 1)) x464000 x464001 x464002))) else (none)) else (none))
def laws_FnPlaces.l2 : Nat → List Int → List Int → Int → List Int → Int → Int → Int → List Int → Option (Bool)
 | 0, _, _, _, _, _, _, _, _ => none
 | k + 1, x9, x14, x15, x16, x17, x489000, x489001, x489002 => if x17 < (x14.length : Int) then (if x15 ≥ 0 then (if 0 ≤ x17 then ((impl_IsOpen.f k x489000 x489001 x489002 (rd x14 x17)).bind fun t498 => (if t498 = true then ((laws_contains.f k x16 (rd x14 x17)).bind fun t500 => (if t500 = true then (laws_FnPlaces.l2 k x9 x14 x15 x16 (wrap64 (x17 + 1)) x489000 x489001 x489002) else (some false))) else (laws_FnPlaces.l2 k x9 x14 x15 x16 (wrap64 (x17 + 1)) x489000 x489001 x489002))) else (none)) else (laws_FnPlaces.l2 k x9 x14 x15 x16 (wrap64 (x17 + 1)) x489000 x489001 x489002)) else ((impl_CanBe.f k x489000 x489001 x489002 x14 (wrap64 (x15 + 1))).bind fun t492 => ((laws_within.f k x16 t492).bind fun t495 => (if t495 = true then ((impl_IsLost.f x9).bind fun t496 => (some (t496 == ((x9.length : Int) != 1)))) else (some false))))
end
def laws_FnPlaces.f (k : Nat) (l0 : List Int) : Option (Bool) := (laws_big.f l0).bind fun t447 => (if t447 = true then (some true) else ((spec_DrawPlacesAfter.f k l0).bind fun bt448 => ((impl_CanBe.f k bt448.1 bt448.2.1 bt448.2.2.1 bt448.2.2.2.1 bt448.2.2.2.2.1).bind fun t464 => ((impl_PlacesAfter.f k bt448.1 bt448.2.1 bt448.2.2.1 bt448.2.2.2.1 bt448.2.2.2.2.1 bt448.2.2.2.2.2.1 bt448.2.2.2.2.2.2).bind fun t467 => ((laws_ascends.f k t464).bind fun t470 => (if t470 = true then ((laws_within.f k t467 t464).bind fun t471 => (if t471 = true then (if (bt448.2.2.2.2.2.1.length : Int) = (bt448.2.2.2.2.2.2.length : Int) then (laws_FnPlaces.j0 k l0 bt448.2.2.2.2.2.1 bt448.2.2.2.2.2.2 t464 t467 false bt448.1 bt448.2.1 bt448.2.2.1) else (laws_FnPlaces.j0 k l0 bt448.2.2.2.2.2.1 bt448.2.2.2.2.2.2 t464 t467 (decide ((t467.length : Int) > 0)) bt448.1 bt448.2.1 bt448.2.2.1)) else (laws_FnPlaces.j0 k l0 bt448.2.2.2.2.2.1 bt448.2.2.2.2.2.2 t464 t467 true bt448.1 bt448.2.1 bt448.2.2.1))) else (laws_FnPlaces.j0 k l0 bt448.2.2.2.2.2.1 bt448.2.2.2.2.2.2 t464 t467 true bt448.1 bt448.2.1 bt448.2.2.1)))))))
theorem laws_FnPlaces.mono_l : ∀ k, (∀ y0 y1 y2 y3 y4 y5 y6 y7 y8, LeO (laws_FnPlaces.j0 k y0 y1 y2 y3 y4 y5 y6 y7 y8) (laws_FnPlaces.j0 (k + 1) y0 y1 y2 y3 y4 y5 y6 y7 y8)) ∧ (∀ y0 y1 y2 y3 y4 y5 y6 y7 y8, LeO (laws_FnPlaces.l0 k y0 y1 y2 y3 y4 y5 y6 y7 y8) (laws_FnPlaces.l0 (k + 1) y0 y1 y2 y3 y4 y5 y6 y7 y8)) ∧ (∀ y0 y1 y2 y3 y4 y5 y6 y7 y8 y9, LeO (laws_FnPlaces.j2 k y0 y1 y2 y3 y4 y5 y6 y7 y8 y9) (laws_FnPlaces.j2 (k + 1) y0 y1 y2 y3 y4 y5 y6 y7 y8 y9)) ∧ (∀ y0 y1 y2 y3 y4 y5 y6 y7 y8 y9 y10, LeO (laws_FnPlaces.l1 k y0 y1 y2 y3 y4 y5 y6 y7 y8 y9 y10) (laws_FnPlaces.l1 (k + 1) y0 y1 y2 y3 y4 y5 y6 y7 y8 y9 y10)) ∧ (∀ y0 y1 y2 y3 y4 y5 y6 y7, LeO (laws_FnPlaces.l2 k y0 y1 y2 y3 y4 y5 y6 y7) (laws_FnPlaces.l2 (k + 1) y0 y1 y2 y3 y4 y5 y6 y7))
 | 0 => ⟨fun _ _ _ _ _ _ _ _ _ r h => by simp [laws_FnPlaces.j0] at h, fun _ _ _ _ _ _ _ _ _ r h => by simp [laws_FnPlaces.l0] at h, fun _ _ _ _ _ _ _ _ _ _ r h => by simp [laws_FnPlaces.j2] at h, fun _ _ _ _ _ _ _ _ _ _ _ r h => by simp [laws_FnPlaces.l1] at h, fun _ _ _ _ _ _ _ _ r h => by simp [laws_FnPlaces.l2] at h⟩
 | k + 1 => by
  obtain ⟨ih0, ih1, ih2, ih3, ih4⟩ := laws_FnPlaces.mono_l k
  refine ⟨?_, ?_, ?_, ?_, ?_⟩
  · intro y0 y1 y2 y3 y4 y5 y6 y7 y8
    unfold laws_FnPlaces.j0
    repeat' first
    | (with_reducible exact ih0 _ _ _ _ _ _ _ _ _)
    | (with_reducible exact ih1 _ _ _ _ _ _ _ _ _)
    | (with_reducible exact ih2 _ _ _ _ _ _ _ _ _ _)
    | (with_reducible exact ih3 _ _ _ _ _ _ _ _ _ _ _)
    | (with_reducible exact ih4 _ _ _ _ _ _ _ _)
    | (with_reducible exact impl_Apart.mono _ _ _ _ _ _)
    | (with_reducible exact impl_CanBe.mono _ _ _ _ _ _)
    | (with_reducible exact impl_IsOpen.mono _ _ _ _ _)
    | (with_reducible exact impl_PlacesAfter.mono _ _ _ _ _ _ _ _)
    | (with_reducible exact laws_ascends.mono _ _)
    | (with_reducible exact laws_contains.mono _ _ _)
    | (with_reducible exact laws_within.mono _ _ _)
    | (with_reducible exact spec_DrawCanBe.mono _ _)
    | (with_reducible exact spec_DrawPlacesAfter.mono _ _)
    | (with_reducible exact LeO.refl _)
    | (with_reducible exact LeO.none _)
    | (with_reducible refine LeO.ite ?_ ?_)
    | (with_reducible refine LeO.bind ?_ (fun _ => ?_))
    | exact ih0 _ _ _ _ _ _ _ _ _
    | exact ih1 _ _ _ _ _ _ _ _ _
    | exact ih2 _ _ _ _ _ _ _ _ _ _
    | exact ih3 _ _ _ _ _ _ _ _ _ _ _
    | exact ih4 _ _ _ _ _ _ _ _
    | exact impl_Apart.mono _ _ _ _ _ _
    | exact impl_CanBe.mono _ _ _ _ _ _
    | exact impl_IsOpen.mono _ _ _ _ _
    | exact impl_PlacesAfter.mono _ _ _ _ _ _ _ _
    | exact laws_ascends.mono _ _
    | exact laws_contains.mono _ _ _
    | exact laws_within.mono _ _ _
    | exact spec_DrawCanBe.mono _ _
    | exact spec_DrawPlacesAfter.mono _ _
    | exact LeO.none _
    | refine LeO.ite ?_ ?_
    | refine LeO.bind ?_ (fun _ => ?_)
  · intro y0 y1 y2 y3 y4 y5 y6 y7 y8
    unfold laws_FnPlaces.l0
    repeat' first
    | (with_reducible exact ih0 _ _ _ _ _ _ _ _ _)
    | (with_reducible exact ih1 _ _ _ _ _ _ _ _ _)
    | (with_reducible exact ih2 _ _ _ _ _ _ _ _ _ _)
    | (with_reducible exact ih3 _ _ _ _ _ _ _ _ _ _ _)
    | (with_reducible exact ih4 _ _ _ _ _ _ _ _)
    | (with_reducible exact impl_Apart.mono _ _ _ _ _ _)
    | (with_reducible exact impl_CanBe.mono _ _ _ _ _ _)
    | (with_reducible exact impl_IsOpen.mono _ _ _ _ _)
    | (with_reducible exact impl_PlacesAfter.mono _ _ _ _ _ _ _ _)
    | (with_reducible exact laws_ascends.mono _ _)
    | (with_reducible exact laws_contains.mono _ _ _)
    | (with_reducible exact laws_within.mono _ _ _)
    | (with_reducible exact spec_DrawCanBe.mono _ _)
    | (with_reducible exact spec_DrawPlacesAfter.mono _ _)
    | (with_reducible exact LeO.refl _)
    | (with_reducible exact LeO.none _)
    | (with_reducible refine LeO.ite ?_ ?_)
    | (with_reducible refine LeO.bind ?_ (fun _ => ?_))
    | exact ih0 _ _ _ _ _ _ _ _ _
    | exact ih1 _ _ _ _ _ _ _ _ _
    | exact ih2 _ _ _ _ _ _ _ _ _ _
    | exact ih3 _ _ _ _ _ _ _ _ _ _ _
    | exact ih4 _ _ _ _ _ _ _ _
    | exact impl_Apart.mono _ _ _ _ _ _
    | exact impl_CanBe.mono _ _ _ _ _ _
    | exact impl_IsOpen.mono _ _ _ _ _
    | exact impl_PlacesAfter.mono _ _ _ _ _ _ _ _
    | exact laws_ascends.mono _ _
    | exact laws_contains.mono _ _ _
    | exact laws_within.mono _ _ _
    | exact spec_DrawCanBe.mono _ _
    | exact spec_DrawPlacesAfter.mono _ _
    | exact LeO.none _
    | refine LeO.ite ?_ ?_
    | refine LeO.bind ?_ (fun _ => ?_)
  · intro y0 y1 y2 y3 y4 y5 y6 y7 y8 y9
    unfold laws_FnPlaces.j2
    repeat' first
    | (with_reducible exact ih0 _ _ _ _ _ _ _ _ _)
    | (with_reducible exact ih1 _ _ _ _ _ _ _ _ _)
    | (with_reducible exact ih2 _ _ _ _ _ _ _ _ _ _)
    | (with_reducible exact ih3 _ _ _ _ _ _ _ _ _ _ _)
    | (with_reducible exact ih4 _ _ _ _ _ _ _ _)
    | (with_reducible exact impl_Apart.mono _ _ _ _ _ _)
    | (with_reducible exact impl_CanBe.mono _ _ _ _ _ _)
    | (with_reducible exact impl_IsOpen.mono _ _ _ _ _)
    | (with_reducible exact impl_PlacesAfter.mono _ _ _ _ _ _ _ _)
    | (with_reducible exact laws_ascends.mono _ _)
    | (with_reducible exact laws_contains.mono _ _ _)
    | (with_reducible exact laws_within.mono _ _ _)
    | (with_reducible exact spec_DrawCanBe.mono _ _)
    | (with_reducible exact spec_DrawPlacesAfter.mono _ _)
    | (with_reducible exact LeO.refl _)
    | (with_reducible exact LeO.none _)
    | (with_reducible refine LeO.ite ?_ ?_)
    | (with_reducible refine LeO.bind ?_ (fun _ => ?_))
    | exact ih0 _ _ _ _ _ _ _ _ _
    | exact ih1 _ _ _ _ _ _ _ _ _
    | exact ih2 _ _ _ _ _ _ _ _ _ _
    | exact ih3 _ _ _ _ _ _ _ _ _ _ _
    | exact ih4 _ _ _ _ _ _ _ _
    | exact impl_Apart.mono _ _ _ _ _ _
    | exact impl_CanBe.mono _ _ _ _ _ _
    | exact impl_IsOpen.mono _ _ _ _ _
    | exact impl_PlacesAfter.mono _ _ _ _ _ _ _ _
    | exact laws_ascends.mono _ _
    | exact laws_contains.mono _ _ _
    | exact laws_within.mono _ _ _
    | exact spec_DrawCanBe.mono _ _
    | exact spec_DrawPlacesAfter.mono _ _
    | exact LeO.none _
    | refine LeO.ite ?_ ?_
    | refine LeO.bind ?_ (fun _ => ?_)
  · intro y0 y1 y2 y3 y4 y5 y6 y7 y8 y9 y10
    unfold laws_FnPlaces.l1
    repeat' first
    | (with_reducible exact ih0 _ _ _ _ _ _ _ _ _)
    | (with_reducible exact ih1 _ _ _ _ _ _ _ _ _)
    | (with_reducible exact ih2 _ _ _ _ _ _ _ _ _ _)
    | (with_reducible exact ih3 _ _ _ _ _ _ _ _ _ _ _)
    | (with_reducible exact ih4 _ _ _ _ _ _ _ _)
    | (with_reducible exact impl_Apart.mono _ _ _ _ _ _)
    | (with_reducible exact impl_CanBe.mono _ _ _ _ _ _)
    | (with_reducible exact impl_IsOpen.mono _ _ _ _ _)
    | (with_reducible exact impl_PlacesAfter.mono _ _ _ _ _ _ _ _)
    | (with_reducible exact laws_ascends.mono _ _)
    | (with_reducible exact laws_contains.mono _ _ _)
    | (with_reducible exact laws_within.mono _ _ _)
    | (with_reducible exact spec_DrawCanBe.mono _ _)
    | (with_reducible exact spec_DrawPlacesAfter.mono _ _)
    | (with_reducible exact LeO.refl _)
    | (with_reducible exact LeO.none _)
    | (with_reducible refine LeO.ite ?_ ?_)
    | (with_reducible refine LeO.bind ?_ (fun _ => ?_))
    | exact ih0 _ _ _ _ _ _ _ _ _
    | exact ih1 _ _ _ _ _ _ _ _ _
    | exact ih2 _ _ _ _ _ _ _ _ _ _
    | exact ih3 _ _ _ _ _ _ _ _ _ _ _
    | exact ih4 _ _ _ _ _ _ _ _
    | exact impl_Apart.mono _ _ _ _ _ _
    | exact impl_CanBe.mono _ _ _ _ _ _
    | exact impl_IsOpen.mono _ _ _ _ _
    | exact impl_PlacesAfter.mono _ _ _ _ _ _ _ _
    | exact laws_ascends.mono _ _
    | exact laws_contains.mono _ _ _
    | exact laws_within.mono _ _ _
    | exact spec_DrawCanBe.mono _ _
    | exact spec_DrawPlacesAfter.mono _ _
    | exact LeO.none _
    | refine LeO.ite ?_ ?_
    | refine LeO.bind ?_ (fun _ => ?_)
  · intro y0 y1 y2 y3 y4 y5 y6 y7
    unfold laws_FnPlaces.l2
    repeat' first
    | (with_reducible exact ih0 _ _ _ _ _ _ _ _ _)
    | (with_reducible exact ih1 _ _ _ _ _ _ _ _ _)
    | (with_reducible exact ih2 _ _ _ _ _ _ _ _ _ _)
    | (with_reducible exact ih3 _ _ _ _ _ _ _ _ _ _ _)
    | (with_reducible exact ih4 _ _ _ _ _ _ _ _)
    | (with_reducible exact impl_Apart.mono _ _ _ _ _ _)
    | (with_reducible exact impl_CanBe.mono _ _ _ _ _ _)
    | (with_reducible exact impl_IsOpen.mono _ _ _ _ _)
    | (with_reducible exact impl_PlacesAfter.mono _ _ _ _ _ _ _ _)
    | (with_reducible exact laws_ascends.mono _ _)
    | (with_reducible exact laws_contains.mono _ _ _)
    | (with_reducible exact laws_within.mono _ _ _)
    | (with_reducible exact spec_DrawCanBe.mono _ _)
    | (with_reducible exact spec_DrawPlacesAfter.mono _ _)
    | (with_reducible exact LeO.refl _)
    | (with_reducible exact LeO.none _)
    | (with_reducible refine LeO.ite ?_ ?_)
    | (with_reducible refine LeO.bind ?_ (fun _ => ?_))
    | exact ih0 _ _ _ _ _ _ _ _ _
    | exact ih1 _ _ _ _ _ _ _ _ _
    | exact ih2 _ _ _ _ _ _ _ _ _ _
    | exact ih3 _ _ _ _ _ _ _ _ _ _ _
    | exact ih4 _ _ _ _ _ _ _ _
    | exact impl_Apart.mono _ _ _ _ _ _
    | exact impl_CanBe.mono _ _ _ _ _ _
    | exact impl_IsOpen.mono _ _ _ _ _
    | exact impl_PlacesAfter.mono _ _ _ _ _ _ _ _
    | exact laws_ascends.mono _ _
    | exact laws_contains.mono _ _ _
    | exact laws_within.mono _ _ _
    | exact spec_DrawCanBe.mono _ _
    | exact spec_DrawPlacesAfter.mono _ _
    | exact LeO.none _
    | refine LeO.ite ?_ ?_
    | refine LeO.bind ?_ (fun _ => ?_)
theorem laws_FnPlaces.mono : ∀ a0 k, LeO (laws_FnPlaces.f k a0) (laws_FnPlaces.f (k + 1) a0) := by
 intro a0 k
 obtain ⟨ih0, ih1, ih2, ih3, ih4⟩ := laws_FnPlaces.mono_l k
 unfold laws_FnPlaces.f
 repeat' first
  | (with_reducible exact ih0 _ _ _ _ _ _ _ _ _)
  | (with_reducible exact ih1 _ _ _ _ _ _ _ _ _)
  | (with_reducible exact ih2 _ _ _ _ _ _ _ _ _ _)
  | (with_reducible exact ih3 _ _ _ _ _ _ _ _ _ _ _)
  | (with_reducible exact ih4 _ _ _ _ _ _ _ _)
  | (with_reducible exact impl_Apart.mono _ _ _ _ _ _)
  | (with_reducible exact impl_CanBe.mono _ _ _ _ _ _)
  | (with_reducible exact impl_IsOpen.mono _ _ _ _ _)
  | (with_reducible exact impl_PlacesAfter.mono _ _ _ _ _ _ _ _)
  | (with_reducible exact laws_ascends.mono _ _)
  | (with_reducible exact laws_contains.mono _ _ _)
  | (with_reducible exact laws_within.mono _ _ _)
  | (with_reducible exact spec_DrawCanBe.mono _ _)
  | (with_reducible exact spec_DrawPlacesAfter.mono _ _)
  | (with_reducible exact LeO.refl _)
  | (with_reducible exact LeO.none _)
  | (with_reducible refine LeO.ite ?_ ?_)
  | (with_reducible refine LeO.bind ?_ (fun _ => ?_))
  | exact ih0 _ _ _ _ _ _ _ _ _
  | exact ih1 _ _ _ _ _ _ _ _ _
  | exact ih2 _ _ _ _ _ _ _ _ _ _
  | exact ih3 _ _ _ _ _ _ _ _ _ _ _
  | exact ih4 _ _ _ _ _ _ _ _
  | exact impl_Apart.mono _ _ _ _ _ _
  | exact impl_CanBe.mono _ _ _ _ _ _
  | exact impl_IsOpen.mono _ _ _ _ _
  | exact impl_PlacesAfter.mono _ _ _ _ _ _ _ _
  | exact laws_ascends.mono _ _
  | exact laws_contains.mono _ _ _
  | exact laws_within.mono _ _ _
  | exact spec_DrawCanBe.mono _ _
  | exact spec_DrawPlacesAfter.mono _ _
  | exact LeO.none _
  | refine LeO.ite ?_ ?_
  | refine LeO.bind ?_ (fun _ => ?_)
def laws_FnPlaces.T15 : Bool × List (List Nat × List Nat) := (true, [([], []), ([0], [0]), ([1], [1]), ([1], [1]), ([1], [1]), ([3, 4, 1], [1, 3, 4]), ([5, 1], [1, 5]), ([1], [1]), ([1], [1]), ([7, 8, 1], [1, 7, 8]), ([9, 1], [1, 9]), ([2, 6, 10, 1, 1], [1, 2, 6, 10]), ([1], [1]), ([1], [1]), ([12, 13, 1], [1, 12, 13]), ([14, 1], [1, 14]), ([11, 15, 1], [1, 11, 15]), ([1, 16], [1, 16]), ([17, 11], [17]), ([18], [18]), ([18], [18]), ([19, 20, 18], [18, 19, 20]), ([21, 18], [18, 21]), ([22, 18], [18, 22]), ([18, 23], [18, 23]), ([24, 18, 0, 1, 2, 3, 4, 5, 6, 7, 8, 9, 10, 11, 12, 13, 14, 15, 16, 17, 18, 19, 20, 21, 22, 23, 24], [0, 24])])
def laws_FnPlaces.B15 : List Nat := [0, 1, 3, 3, 3, 27, 59, 3, 3, 387, 899, 2047, 3, 3, 12291, 28675, 65535, 131071, 262143, 524287, 524287, 2097151, 4194303, 8388607, 16777215, 33554431]
theorem laws_FnPlaces.tab15 : rtab .any (opsOf Try.f5 15) = laws_FnPlaces.T15 := by kernel_rfl
theorem laws_FnPlaces.bits15 : waitsOk laws_FnPlaces.T15.2 laws_FnPlaces.B15 = true := by kernel_rfl
def laws_FnPlaces.T23 : Bool × List (List Nat × List Nat) := (true, [([], []), ([0], [0]), ([1], [1]), ([2], [2]), ([2], [2]), ([2], [2]), ([4, 5, 2], [2, 4, 5]), ([6, 2], [2, 6]), ([3, 7, 2, 2], [2, 3, 7]), ([2, 8], [2, 8]), ([9, 8], [9]), ([10], [10]), ([10], [10]), ([10], [10]), ([12, 13, 10], [10, 12, 13]), ([14, 10], [10, 14]), ([11, 15, 10, 10], [10, 11, 15]), ([16, 10], [10, 16]), ([10, 17], [10, 17])])
def laws_FnPlaces.B23 : List Nat := [0, 1, 3, 7, 7, 7, 55, 119, 255, 511, 1023, 2047, 2047, 2047, 14335, 30719, 65535, 131071, 262143]
theorem laws_FnPlaces.tab23 : rtab .any (opsOf Try.f5 23) = laws_FnPlaces.T23 := by kernel_rfl
theorem laws_FnPlaces.bits23 : waitsOk laws_FnPlaces.T23.2 laws_FnPlaces.B23 = true := by kernel_rfl
set_option maxHeartbeats 8000000 in
set_option maxRecDepth 100000 in
theorem laws_FnPlaces.calls (k : Nat) (A0 : Option Addr) (c0 : Nat) (l0 : List Int) (_ : Bool) (w : World) (hr0 : Kd.C (Kd.int .u8) w A0 l0.length l0) (hc0 : l0.length ≤ c0) (h : laws_FnPlaces.f k l0 = some true) :
 Calls Try.prog 5 #[.slice A0 l0.length c0] w fun e w' => e = .returned (.bool true) ∧ Below w.heap.size w w' := by
 have hu27 := Try.underlying27
 have HR0 := Aside0.mk hr0
 have HC0 := Aside0.mk hc0
 clear hr0 hc0
 have HB := Aside0.mk (Below.refl w.heap.size w)
 have H : ((laws_big.f l0).bind fun t447 => (if t447 = true then (some true) else ((spec_DrawPlacesAfter.f k l0).bind fun bt448 => ((impl_CanBe.f k bt448.1 bt448.2.1 bt448.2.2.1 bt448.2.2.2.1 bt448.2.2.2.2.1).bind fun t464 => ((impl_PlacesAfter.f k bt448.1 bt448.2.1 bt448.2.2.1 bt448.2.2.2.1 bt448.2.2.2.2.1 bt448.2.2.2.2.2.1 bt448.2.2.2.2.2.2).bind fun t467 => ((laws_ascends.f k t464).bind fun t470 => (if t470 = true then ((laws_within.f k t467 t464).bind fun t471 => (if t471 = true then (if (bt448.2.2.2.2.2.1.length : Int) = (bt448.2.2.2.2.2.2.length : Int) then (laws_FnPlaces.j0 k l0 bt448.2.2.2.2.2.1 bt448.2.2.2.2.2.2 t464 t467 false bt448.1 bt448.2.1 bt448.2.2.1) else (laws_FnPlaces.j0 k l0 bt448.2.2.2.2.2.1 bt448.2.2.2.2.2.2 t464 t467 (decide ((t467.length : Int) > 0)) bt448.1 bt448.2.1 bt448.2.2.1)) else (laws_FnPlaces.j0 k l0 bt448.2.2.2.2.2.1 bt448.2.2.2.2.2.2 t464 t467 true bt448.1 bt448.2.1 bt448.2.2.1))) else (laws_FnPlaces.j0 k l0 bt448.2.2.2.2.2.1 bt448.2.2.2.2.2.2 t464 t467 true bt448.1 bt448.2.1 bt448.2.2.1)))))))) = some true := h
 clear h
 replace H := Option.bind_eq_some_iff.mp H
 obtain ⟨t447, A20, H⟩ := H
 have A2 := Aside0.mk A20
 clear A20
 by_cases c3 : t447 = true
 · subst c3
   have H1 : (some true) = some true := rfl
   clear H
   have H := H1
   clear H1
   clear H
   go_enter Try.func5, Try.ntmps5
   go_wp2_with (first | ((with_reducible refine gate_callee (f := 19) rfl ?_); refine goesL_ (some 19) rfl rfl Try.func19 (by kernel_rfl) rfl #[.slice A0 l0.length c0] rfl (by (try simp only [List.map_toArray, List.map_cons, List.map_nil]); first | done | rfl | (simp only [List.length_drop, List.length_take]; rfl)) ?_; (with_reducible refine (laws_big.calls _ _ l0 true _ ?side1 ?side2 A2.out).mono ?_); (case side1 => exact Kd.C_up HR0.out); (case side2 => exact HC0.out); rintro e w' ⟨rfl, ⟨nd, rfl⟩⟩; refine ⟨_, rfl, ?_⟩))
   go_ret
   exact ⟨by first | rfl | (simp [errW_none, errW_some] <;> rfl) | (simp [*, errW_none, errW_some] <;> rfl), below_up HB.out⟩
 replace c3 := Bool.eq_false_iff.mpr c3
 subst c3
 rw [if_neg (show ¬ (false = true) by decide)] at H
 replace H := Option.bind_eq_some_iff.mp H
 obtain ⟨⟨t448, t449, t450, t453, t456, t457, t460⟩, A40, H⟩ := H
 dsimp only at H
 have A4 := Aside0.mk A40
 clear A40
 replace H := Option.bind_eq_some_iff.mp H
 obtain ⟨t464, A50, H⟩ := H
 have A5 := Aside0.mk A50
 clear A50
 replace H := Option.bind_eq_some_iff.mp H
 obtain ⟨t467, A60, H⟩ := H
 have A6 := Aside0.mk A60
 clear A60
 have HC7 := Aside0.mk H
 clear H
 go_enter Try.func5, Try.ntmps5
 go_upto_region 6 with (first | ((with_reducible refine gate_callee (f := 19) rfl ?_); refine goesL_ (some 19) rfl rfl Try.func19 (by kernel_rfl) rfl #[.slice A0 l0.length c0] rfl (by (try simp only [List.map_toArray, List.map_cons, List.map_nil]); first | done | rfl | (simp only [List.length_drop, List.length_take]; rfl)) ?_; (with_reducible refine (laws_big.calls _ _ l0 false _ ?side1 ?side2 A2.out).mono ?_); (case side1 => exact Kd.C_up HR0.out); (case side2 => exact HC0.out); rintro e w' ⟨rfl, ⟨nd, rfl⟩⟩; refine ⟨_, rfl, ?_⟩) | ((with_reducible refine gate_callee (f := 20) rfl ?_); refine goesL_ (some 22) rfl rfl Try.func20 (by kernel_rfl) rfl #[.slice A0 l0.length c0] rfl (by (try simp only [List.map_toArray, List.map_cons, List.map_nil]); first | done | rfl | (simp only [List.length_drop, List.length_take]; rfl)) ?_; (with_reducible refine (spec_DrawPlacesAfter.calls k _ _ l0 t448 t449 t450 t453 t456 t457 t460 _ ?side1 ?side2 A4.out).mono ?_); (case side1 => exact Kd.C_up HR0.out); (case side2 => exact HC0.out); rintro e w8 ⟨v451, v454, v458, v461, rfl, ho0, ho1, ho2, ho3, hb⟩; refine ⟨_, rfl, ?_⟩; have n0_ := Aside0.mk (Kd.R_lower ho0 (below_size (below_up HB.out))); have n1_ := Aside0.mk (Kd.R_lower ho1 (below_size (below_up HB.out))); have n2_ := Aside0.mk (Kd.R_lower ho2 (below_size (below_up HB.out))); have n3_ := Aside0.mk (Kd.R_lower ho3 (below_size (below_up HB.out))); have n4_ := Aside0.mk (below_step (below_up HB.out) hb); clear HB; have HO452 := n0_; have HO455 := n1_; have HO459 := n2_; have HO462 := n3_; have HB := n4_; clear n0_ n1_ n2_ n3_ n4_; (try clear hb); (try clear hb2); (try clear hk); (try clear hi); (try clear ho0); (try clear ho1); (try clear ho2); (try clear ho3)) | ((with_reducible refine gate_dst (N := 3) rfl ?_); (try (refine gate_guard (by rfl) ?_; dsimp only)); refine box_event ?hg (N := 3) ?hd (cs := #[.int .i64 0, .int .i64 0, .slice none 0 0]) (t := 27) ?hr ?_; (case hd => rfl); (case hg => rfl); (case hr => first | (go_simp; done) | (go_simp; rfl)); intro gb463 hg w9 hbox hb; have n0_ := Aside0.mk (Kd.R_below (Kd.R_up HO452.out) hb); have n1_ := Aside0.mk (Kd.R_below (Kd.R_up HO455.out) hb); have n2_ := Aside0.mk (Kd.R_below (Kd.R_up HO459.out) hb); have n3_ := Aside0.mk (Kd.R_below (Kd.R_up HO462.out) hb); have n4_ := Aside0.mk (below_step (below_up HB.out) hb); have n5_ := Aside0.mk (hbox); have n6_ := Aside0.mk ((by rw [hg]; exact (below_size (below_up HB.out)) : w.heap.size ≤ gb463)); have n7_ := Aside0.mk ((by rw [hg]; exact (below_size (below_up HB.out)) : w.heap.size ≤ gb463)); clear HO452; clear HO455; clear HO459; clear HO462; clear HB; have HO452 := n0_; have HO455 := n1_; have HO459 := n2_; have HO462 := n3_; have HB := n4_; have BK463 := n5_; have GW463 := n6_; have GE463 := n7_; clear n0_ n1_ n2_ n3_ n4_ n5_ n6_ n7_; clear hb hbox hg; have hcz10_0 : w9.cell? ⟨gb463, 0, none⟩ = some (.int .i64 0) := (blk_cell BK463.out 0).trans rfl; have hcz10_1 : w9.cell? ⟨gb463, 1, none⟩ = some (.int .i64 0) := (blk_cell BK463.out 1).trans rfl; have hcz10_2 : w9.cell? ⟨gb463, 2, none⟩ = some (.slice none 0 0) := (blk_cell BK463.out 2).trans rfl; have hfz10_0 := blk_frozen BK463.out 0; have hfz10_1 := blk_frozen BK463.out 1; have hfz10_2 := blk_frozen BK463.out 2; obtain ⟨Ao11, co11, eo11⟩ := Kd.R_slice HO452.out; subst eo11; obtain ⟨Ao12, co12, eo12⟩ := Kd.R_slice HO455.out; subst eo12) | ((with_reducible refine gate_callee (f := 11) rfl ?_); refine goesL_ (some 31) rfl rfl Try.func11 (by kernel_rfl) rfl #[.agg #[.int .i64 t448, .int .i64 t449, .slice Ao11 t450.length co11], .slice Ao12 t453.length co12, .int .i64 t456] rfl (by (try simp only [List.map_toArray, List.map_cons, List.map_nil]); first | done | rfl | (simp only [List.length_drop, List.length_take]; rfl)) ?_; (with_reducible refine (impl_CanBe.calls k t448 t449 _ _ t450 _ _ t453 t456 t464 _ ?side1 ?side2 ?side3 ?side4 A5.out).mono ?_); (case side1 => refine (Kd.R_reads' (e := 3) (base := w.heap.size) (ok := fun k_ => (some k_ ≠ (.slice Ao12 t453.length co12 : Value).ownBlock ∧ (some k_ ≠ (v458 : Value).ownBlock ∧ some k_ ≠ (v461 : Value).ownBlock))) (n := t450.length) (c := co11) ?_).2.2; exact (by (with_reducible repeat (first | apply Kd.R_alloc | apply Kd.R_drewN | apply Kd.R_drew)); exact (Kd.R_mono (Kd.R_far (p := ⟨gb463, 2, none⟩) (Kd.R_far (p := ⟨gb463, 1, none⟩) (Kd.R_far (p := ⟨gb463, 0, none⟩) (Kd.R_types HO452.out BK463.out (by decide)) (fun _ hk => hk.2) (.int .i64 t448)) (fun _ hk => hk.2) (.int .i64 t449)) (fun _ hk => hk.2) (.slice Ao11 t450.length co11)) (fun _ h_ => h_.1)))); (case side2 => exact (Kd.R_reads' HO452.out).2.1); (case side3 => refine (Kd.R_reads' (e := 3) (base := w.heap.size) (ok := fun k_ => (some k_ ≠ (.slice Ao11 t450.length co11 : Value).ownBlock ∧ (some k_ ≠ (v458 : Value).ownBlock ∧ some k_ ≠ (v461 : Value).ownBlock))) (n := t453.length) (c := co12) ?_).2.2; exact (by (with_reducible repeat (first | apply Kd.R_alloc | apply Kd.R_drewN | apply Kd.R_drew)); exact (Kd.R_mono (Kd.R_far (p := ⟨gb463, 2, none⟩) (Kd.R_far (p := ⟨gb463, 1, none⟩) (Kd.R_far (p := ⟨gb463, 0, none⟩) (Kd.R_types HO455.out BK463.out (by decide)) (fun _ hk => hk.2) (.int .i64 t448)) (fun _ hk => hk.2) (.int .i64 t449)) (fun _ hk => hk.2) (.slice Ao11 t450.length co11)) (fun _ h_ => h_.1)))); (case side4 => exact (Kd.R_reads' HO455.out).2.1); rintro e w13 ⟨v465, rfl, ho0, hb⟩; refine ⟨_, rfl, ?_⟩; have n0_ := Aside0.mk (Kd.R_elder' (by (with_reducible repeat (first | apply Kd.R_alloc | apply Kd.R_drewN | apply Kd.R_drew)); exact (Kd.R_mono (Kd.R_far (p := ⟨gb463, 2, none⟩) (Kd.R_far (p := ⟨gb463, 1, none⟩) (Kd.R_far (p := ⟨gb463, 0, none⟩) (Kd.R_types HO452.out BK463.out (by decide)) (fun _ hk => hk.2) (.int .i64 t448)) (fun _ hk => hk.2) (.int .i64 t449)) (fun _ hk => hk.2) (.slice Ao11 t450.length co11)) (fun _ h_ => h_.1))) (Kd.R_base ho0) hb); have n1_ := Aside0.mk (Kd.R_elder' (by (with_reducible repeat (first | apply Kd.R_alloc | apply Kd.R_drewN | apply Kd.R_drew)); exact (Kd.R_mono (Kd.R_far (p := ⟨gb463, 2, none⟩) (Kd.R_far (p := ⟨gb463, 1, none⟩) (Kd.R_far (p := ⟨gb463, 0, none⟩) (Kd.R_types HO455.out BK463.out (by decide)) (fun _ hk => hk.2) (.int .i64 t448)) (fun _ hk => hk.2) (.int .i64 t449)) (fun _ hk => hk.2) (.slice Ao11 t450.length co11)) (fun _ h_ => h_.1))) (Kd.R_base ho0) hb); have n2_ := Aside0.mk (Kd.R_elder' (by (with_reducible repeat (first | apply Kd.R_alloc | apply Kd.R_drewN | apply Kd.R_drew)); exact (Kd.R_mono (Kd.R_far (p := ⟨gb463, 2, none⟩) (Kd.R_far (p := ⟨gb463, 1, none⟩) (Kd.R_far (p := ⟨gb463, 0, none⟩) (Kd.R_types HO459.out BK463.out (by decide)) (fun _ hk => hk.2) (.int .i64 t448)) (fun _ hk => hk.2) (.int .i64 t449)) (fun _ hk => hk.2) (.slice Ao11 t450.length co11)) (fun _ h_ => h_.1))) (Kd.R_base ho0) hb); have n3_ := Aside0.mk (Kd.R_elder' (by (with_reducible repeat (first | apply Kd.R_alloc | apply Kd.R_drewN | apply Kd.R_drew)); exact (Kd.R_mono (Kd.R_far (p := ⟨gb463, 2, none⟩) (Kd.R_far (p := ⟨gb463, 1, none⟩) (Kd.R_far (p := ⟨gb463, 0, none⟩) (Kd.R_types HO462.out BK463.out (by decide)) (fun _ hk => hk.2) (.int .i64 t448)) (fun _ hk => hk.2) (.int .i64 t449)) (fun _ hk => hk.2) (.slice Ao11 t450.length co11)) (fun _ h_ => h_.1))) (Kd.R_base ho0) hb); have n4_ := Aside0.mk (Kd.R_lower (Kd.R_new' (Kd.R_new' (Kd.R_new' (Kd.R_new' ho0 (Kd.R_lt (by (with_reducible repeat (first | apply Kd.R_alloc | apply Kd.R_drewN | apply Kd.R_drew)); exact (Kd.R_mono (Kd.R_far (p := ⟨gb463, 2, none⟩) (Kd.R_far (p := ⟨gb463, 1, none⟩) (Kd.R_far (p := ⟨gb463, 0, none⟩) (Kd.R_types HO452.out BK463.out (by decide)) (fun _ hk => hk.2) (.int .i64 t448)) (fun _ hk => hk.2) (.int .i64 t449)) (fun _ hk => hk.2) (.slice Ao11 t450.length co11)) (fun _ h_ => h_.1))))) (Kd.R_lt (by (with_reducible repeat (first | apply Kd.R_alloc | apply Kd.R_drewN | apply Kd.R_drew)); exact (Kd.R_mono (Kd.R_far (p := ⟨gb463, 2, none⟩) (Kd.R_far (p := ⟨gb463, 1, none⟩) (Kd.R_far (p := ⟨gb463, 0, none⟩) (Kd.R_types HO455.out BK463.out (by decide)) (fun _ hk => hk.2) (.int .i64 t448)) (fun _ hk => hk.2) (.int .i64 t449)) (fun _ hk => hk.2) (.slice Ao11 t450.length co11)) (fun _ h_ => h_.1))))) (Kd.R_lt (by (with_reducible repeat (first | apply Kd.R_alloc | apply Kd.R_drewN | apply Kd.R_drew)); exact (Kd.R_mono (Kd.R_far (p := ⟨gb463, 2, none⟩) (Kd.R_far (p := ⟨gb463, 1, none⟩) (Kd.R_far (p := ⟨gb463, 0, none⟩) (Kd.R_types HO459.out BK463.out (by decide)) (fun _ hk => hk.2) (.int .i64 t448)) (fun _ hk => hk.2) (.int .i64 t449)) (fun _ hk => hk.2) (.slice Ao11 t450.length co11)) (fun _ h_ => h_.1))))) (Kd.R_lt (by (with_reducible repeat (first | apply Kd.R_alloc | apply Kd.R_drewN | apply Kd.R_drew)); exact (Kd.R_mono (Kd.R_far (p := ⟨gb463, 2, none⟩) (Kd.R_far (p := ⟨gb463, 1, none⟩) (Kd.R_far (p := ⟨gb463, 0, none⟩) (Kd.R_types HO462.out BK463.out (by decide)) (fun _ hk => hk.2) (.int .i64 t448)) (fun _ hk => hk.2) (.int .i64 t449)) (fun _ hk => hk.2) (.slice Ao11 t450.length co11)) (fun _ h_ => h_.1))))) (below_size (by repeat (first | (with_reducible first | exact HB.out | apply below_alloc | apply pw_below_drewN | apply below_drew1 | refine below_set ?_ GE463.out) | exact HB.out)))); have n5_ := Aside0.mk (blk_below (g := gb463) (o := .cells #[.int .i64 t448, .int .i64 t449, .slice Ao11 t450.length co11] 27 (0, 0)) (by (with_reducible repeat (first | refine blk_drewN ?_ _ | refine blk_drew ?_ | refine blk_alloc ?_ _)); refine blk_put (cs := #[.int .i64 t448, .int .i64 t449, .slice none 0 0]) ?_ 2 _ rfl; (with_reducible repeat (first | refine blk_drewN ?_ _ | refine blk_drew ?_ | refine blk_alloc ?_ _)); refine blk_put (cs := #[.int .i64 t448, .int .i64 0, .slice none 0 0]) ?_ 1 _ rfl; (with_reducible repeat (first | refine blk_drewN ?_ _ | refine blk_drew ?_ | refine blk_alloc ?_ _)); refine blk_put (cs := #[.int .i64 0, .int .i64 0, .slice none 0 0]) ?_ 0 _ rfl; (with_reducible repeat (first | refine blk_drewN ?_ _ | refine blk_drew ?_ | refine blk_alloc ?_ _)); exact BK463.out) hb); have n6_ := Aside0.mk (below_step (by repeat (first | (with_reducible first | exact HB.out | apply below_alloc | apply pw_below_drewN | apply below_drew1 | refine below_set ?_ GE463.out) | exact HB.out)) hb); clear HO452; clear HO455; clear HO459; clear HO462; clear BK463; clear HB; have HO452 := n0_; have HO455 := n1_; have HO459 := n2_; have HO462 := n3_; have HO466 := n4_; have BK463 := n5_; have HB := n6_; clear n0_ n1_ n2_ n3_ n4_ n5_ n6_; (try clear hb); (try clear hb2); (try clear hk); (try clear hi); (try clear ho0); have hcz14_0 : w13.cell? ⟨gb463, 0, none⟩ = some (.int .i64 t448) := (blk_cell BK463.out 0).trans rfl; have hcz14_1 : w13.cell? ⟨gb463, 1, none⟩ = some (.int .i64 t449) := (blk_cell BK463.out 1).trans rfl; have hcz14_2 : w13.cell? ⟨gb463, 2, none⟩ = some (.slice Ao11 t450.length co11) := (blk_cell BK463.out 2).trans rfl; have hfz14_0 := blk_frozen BK463.out 0; have hfz14_1 := blk_frozen BK463.out 1; have hfz14_2 := blk_frozen BK463.out 2; obtain ⟨Ao15, co15, eo15⟩ := Kd.R_slice HO459.out; subst eo15; obtain ⟨Ao16, co16, eo16⟩ := Kd.R_slice HO462.out; subst eo16) | ((with_reducible refine gate_callee (f := 18) rfl ?_); refine goesL_ (some 37) rfl rfl Try.func18 (by kernel_rfl) rfl #[.agg #[.int .i64 t448, .int .i64 t449, .slice Ao11 t450.length co11], .slice Ao12 t453.length co12, .int .i64 t456, .slice Ao15 t457.length co15, .slice Ao16 t460.length co16] rfl (by (try simp only [List.map_toArray, List.map_cons, List.map_nil]); first | done | rfl | (simp only [List.length_drop, List.length_take]; rfl)) ?_; (with_reducible refine (impl_PlacesAfter.calls k t448 t449 _ _ t450 _ _ t453 t456 _ _ t457 _ _ t460 t467 _ ?side1 ?side2 ?side3 ?side4 ?side5 ?side6 ?side7 ?side8 A6.out).mono ?_); (case side1 => exact Kd.C_up ((Kd.R_reads' HO452.out).2.2)); (case side2 => exact (Kd.R_reads' HO452.out).2.1); (case side3 => exact Kd.C_up ((Kd.R_reads' HO455.out).2.2)); (case side4 => exact (Kd.R_reads' HO455.out).2.1); (case side5 => exact Kd.C_up ((Kd.R_reads' HO459.out).2.2)); (case side6 => exact (Kd.R_reads' HO459.out).2.1); (case side7 => exact Kd.C_up ((Kd.R_reads' HO462.out).2.2)); (case side8 => exact (Kd.R_reads' HO462.out).2.1); rintro e w17 ⟨v468, rfl, ho0, hb⟩; refine ⟨_, rfl, ?_⟩; have n0_ := Aside0.mk (Kd.R_elder' (Kd.R_up HO452.out) (Kd.R_base ho0) hb); have n1_ := Aside0.mk (Kd.R_elder' (Kd.R_up HO455.out) (Kd.R_base ho0) hb); have n2_ := Aside0.mk (Kd.R_elder' (Kd.R_up HO459.out) (Kd.R_base ho0) hb); have n3_ := Aside0.mk (Kd.R_elder' (Kd.R_up HO462.out) (Kd.R_base ho0) hb); have n4_ := Aside0.mk (Kd.R_elder' (Kd.R_up HO466.out) (Kd.R_base ho0) hb); have n5_ := Aside0.mk (Kd.R_lower (Kd.R_new' (Kd.R_new' (Kd.R_new' (Kd.R_new' (Kd.R_new' ho0 (Kd.R_lt (Kd.R_up HO452.out))) (Kd.R_lt (Kd.R_up HO455.out))) (Kd.R_lt (Kd.R_up HO459.out))) (Kd.R_lt (Kd.R_up HO462.out))) (Kd.R_lt (by (with_reducible repeat (first | apply Kd.R_alloc | apply Kd.R_drewN | apply Kd.R_drew)); exact HO466.out))) (below_size (by repeat (first | (with_reducible first | exact HB.out | apply below_alloc | apply pw_below_drewN | apply below_drew1 | refine below_set ?_ GE463.out) | exact HB.out)))); have n6_ := Aside0.mk (blk_below (g := gb463) (o := .cells #[.int .i64 t448, .int .i64 t449, .slice Ao11 t450.length co11] 27 (0, 0)) (blk_up BK463.out) hb); have n7_ := Aside0.mk (below_step (by repeat (first | (with_reducible first | exact HB.out | apply below_alloc | apply pw_below_drewN | apply below_drew1 | refine below_set ?_ GE463.out) | exact HB.out)) hb); clear HO452; clear HO455; clear HO459; clear HO462; clear HO466; clear BK463; clear HB; have HO452 := n0_; have HO455 := n1_; have HO459 := n2_; have HO462 := n3_; have HO466 := n4_; have HO469 := n5_; have BK463 := n6_; have HB := n7_; clear n0_ n1_ n2_ n3_ n4_ n5_ n6_ n7_; (try clear hb); (try clear hb2); (try clear hk); (try clear hi); (try clear ho0)))
 (try simp only [Act.put, List.setIfInBounds_toArray, List.set_cons_zero, List.set_cons_succ])
 go_cut [58] (fun v58 wc => ∃ (kq : Nat) (x58_6 : Bool), v58 = .bool x58_6 ∧ Aside0 (laws_FnPlaces.j0 kq l0 t457 t460 t464 t467 x58_6 t448 t449 t450 = some true) ∧ Aside0 (kq ≤ k) ∧ Aside0 (Kd.R (Kd.int .i64) 3 wc w.heap.size (fun k_ => some k_ ≠ ((.slice Ao16 t460.length co16) : Value).ownBlock ∧ some k_ ≠ (v465 : Value).ownBlock ∧ some k_ ≠ (v468 : Value).ownBlock ∧ some k_ ≠ ((.slice Ao11 t450.length co11) : Value).ownBlock) (.slice Ao15 t457.length co15) t457) ∧ Aside0 (Kd.R (Kd.int .i64) 3 wc w.heap.size (fun k_ => some k_ ≠ ((.slice Ao15 t457.length co15) : Value).ownBlock ∧ some k_ ≠ (v465 : Value).ownBlock ∧ some k_ ≠ (v468 : Value).ownBlock ∧ some k_ ≠ ((.slice Ao11 t450.length co11) : Value).ownBlock) (.slice Ao16 t460.length co16) t460) ∧ Aside0 (Kd.R (Kd.int .i64) 3 wc w.heap.size (fun k_ => some k_ ≠ ((.slice Ao15 t457.length co15) : Value).ownBlock ∧ some k_ ≠ ((.slice Ao16 t460.length co16) : Value).ownBlock ∧ some k_ ≠ (v468 : Value).ownBlock ∧ some k_ ≠ ((.slice Ao11 t450.length co11) : Value).ownBlock) v465 t464) ∧ Aside0 (Kd.R (Kd.int .i64) 3 wc w.heap.size (fun k_ => some k_ ≠ ((.slice Ao15 t457.length co15) : Value).ownBlock ∧ some k_ ≠ ((.slice Ao16 t460.length co16) : Value).ownBlock ∧ some k_ ≠ (v465 : Value).ownBlock ∧ some k_ ≠ ((.slice Ao11 t450.length co11) : Value).ownBlock) v468 t467) ∧ Aside0 (Kd.Q (Kd.int .i64) 3 wc w.heap.size (fun k_ => some k_ ≠ ((.slice Ao15 t457.length co15) : Value).ownBlock ∧ some k_ ≠ ((.slice Ao16 t460.length co16) : Value).ownBlock ∧ some k_ ≠ (v465 : Value).ownBlock ∧ some k_ ≠ (v468 : Value).ownBlock) (.slice Ao11 t450.length co11) t450) ∧ Aside0 (wc.heap[gb463]? = some (.cells #[.int .i64 t448, .int .i64 t449, (.slice Ao11 t450.length co11)] 27 (0, 0))) ∧ Aside0 (Below w.heap.size w wc))
 case first =>
  have H := HC7.out
  clear HC7
  replace H := Option.bind_eq_some_iff.mp H
  obtain ⟨t470, A180, H⟩ := H
  have A18 := Aside0.mk A180
  clear A180
  by_cases c19 : t470 = true
  rotate_left
  · replace c19 := Bool.eq_false_iff.mpr c19
    subst c19
    rw [if_neg (show ¬ (false = true) by decide)] at H
    have H' := Aside0.mk H
    clear H
    obtain ⟨Ao29, co29, eo29⟩ := Kd.R_slice HO466.out
    subst eo29
    go_wp2_with (first | ((with_reducible refine gate_callee (f := 21) rfl ?_); refine goesL_ (some 39) rfl rfl Try.func21 (by kernel_rfl) rfl #[.slice Ao29 t464.length co29] rfl (by (try simp only [List.map_toArray, List.map_cons, List.map_nil]); first | done | rfl | (simp only [List.length_drop, List.length_take]; rfl)) ?_; (with_reducible refine (laws_ascends.calls k _ _ t464 false _ ?side1 ?side2 A18.out).mono ?_); (case side1 => exact Kd.C_up ((Kd.R_reads' HO466.out).2.2)); (case side2 => exact (Kd.R_reads' HO466.out).2.1); rintro e w' ⟨rfl, ⟨nd, rfl⟩⟩; refine ⟨_, rfl, ?_⟩))
    go_meet
    case rel => exact ⟨_, (true), (by first | rfl | (simp; done) | (simp [*]; done)), H', ⟨by first | omega | exact Nat.le_refl _⟩, ⟨by (with_reducible repeat (first | apply Kd.R_alloc | apply Kd.R_drewN | apply Kd.R_drew)); exact Kd.R_mono HO459.out (fun _ hk => ⟨hk.1.1.2.2, ⟨hk.1.2, ⟨hk.2, hk.1.1.1⟩⟩⟩)⟩, ⟨by (with_reducible repeat (first | apply Kd.R_alloc | apply Kd.R_drewN | apply Kd.R_drew)); exact Kd.R_mono HO462.out (fun _ hk => ⟨hk.1.1.2.2, ⟨hk.1.2, ⟨hk.2, hk.1.1.1⟩⟩⟩)⟩, ⟨by (with_reducible repeat (first | apply Kd.R_alloc | apply Kd.R_drewN | apply Kd.R_drew)); exact Kd.R_mono HO466.out (fun _ hk => ⟨hk.1.1.2, ⟨hk.1.2, ⟨hk.2, hk.1.1.1.1.2⟩⟩⟩)⟩, ⟨by (with_reducible repeat (first | apply Kd.R_alloc | apply Kd.R_drewN | apply Kd.R_drew)); exact Kd.R_mono HO469.out (fun _ hk => ⟨hk.1.1.2, ⟨hk.1.2, ⟨hk.2, hk.1.1.1.1.2⟩⟩⟩)⟩, ⟨Kd.Q_of_R (by (with_reducible repeat (first | apply Kd.R_alloc | apply Kd.R_drewN | apply Kd.R_drew)); exact Kd.R_mono HO452.out (fun _ hk => ⟨hk.1.1.2.1, ⟨hk.1.1.2.2, ⟨hk.1.2, hk.2⟩⟩⟩))⟩, ⟨by (with_reducible repeat (first | refine blk_drewN ?_ _ | refine blk_drew ?_ | refine blk_alloc ?_ _)); exact BK463.out⟩, ⟨by repeat (first | (with_reducible first | exact HB.out | apply below_alloc | apply pw_below_drewN | apply below_drew1 | refine below_set ?_ GE463.out) | exact HB.out)⟩⟩
  subst c19
  rw [if_pos rfl] at H
  replace H := Option.bind_eq_some_iff.mp H
  obtain ⟨t471, A200, H⟩ := H
  have A20 := Aside0.mk A200
  clear A200
  by_cases c21 : t471 = true
  rotate_left
  · replace c21 := Bool.eq_false_iff.mpr c21
    subst c21
    rw [if_neg (show ¬ (false = true) by decide)] at H
    have H' := Aside0.mk H
    clear H
    obtain ⟨Ao27, co27, eo27⟩ := Kd.R_slice HO466.out
    subst eo27
    go_wp2_with (first | ((with_reducible refine gate_callee (f := 21) rfl ?_); refine goesL_ (some 39) rfl rfl Try.func21 (by kernel_rfl) rfl #[.slice Ao27 t464.length co27] rfl (by (try simp only [List.map_toArray, List.map_cons, List.map_nil]); first | done | rfl | (simp only [List.length_drop, List.length_take]; rfl)) ?_; (with_reducible refine (laws_ascends.calls k _ _ t464 true _ ?side1 ?side2 A18.out).mono ?_); (case side1 => exact Kd.C_up ((Kd.R_reads' HO466.out).2.2)); (case side2 => exact (Kd.R_reads' HO466.out).2.1); rintro e w' ⟨rfl, ⟨nd, rfl⟩⟩; refine ⟨_, rfl, ?_⟩; obtain ⟨Ao28, co28, eo28⟩ := Kd.R_slice HO469.out; subst eo28) | (go_at_call 22; (with_reducible refine (laws_within.calls k _ _ t467 _ _ t464 false _ ?side1 ?side2 ?side3 ?side4 A20.out).mono ?_); (case side1 => exact Kd.C_up ((Kd.R_reads' HO469.out).2.2)); (case side2 => exact (Kd.R_reads' HO469.out).2.1); (case side3 => exact Kd.C_up ((Kd.R_reads' HO466.out).2.2)); (case side4 => exact (Kd.R_reads' HO466.out).2.1); rintro e w' ⟨rfl, ⟨nd, rfl⟩⟩))
    go_meet
    case rel => exact ⟨_, (true), (by first | rfl | (simp; done) | (simp [*]; done)), H', ⟨by first | omega | exact Nat.le_refl _⟩, ⟨by (with_reducible repeat (first | apply Kd.R_alloc | apply Kd.R_drewN | apply Kd.R_drew)); exact Kd.R_mono HO459.out (fun _ hk => ⟨hk.1.1.2.2, ⟨hk.1.2, ⟨hk.2, hk.1.1.1⟩⟩⟩)⟩, ⟨by (with_reducible repeat (first | apply Kd.R_alloc | apply Kd.R_drewN | apply Kd.R_drew)); exact Kd.R_mono HO462.out (fun _ hk => ⟨hk.1.1.2.2, ⟨hk.1.2, ⟨hk.2, hk.1.1.1⟩⟩⟩)⟩, ⟨by (with_reducible repeat (first | apply Kd.R_alloc | apply Kd.R_drewN | apply Kd.R_drew)); exact Kd.R_mono HO466.out (fun _ hk => ⟨hk.1.1.2, ⟨hk.1.2, ⟨hk.2, hk.1.1.1.1.2⟩⟩⟩)⟩, ⟨by (with_reducible repeat (first | apply Kd.R_alloc | apply Kd.R_drewN | apply Kd.R_drew)); exact Kd.R_mono HO469.out (fun _ hk => ⟨hk.1.1.2, ⟨hk.1.2, ⟨hk.2, hk.1.1.1.1.2⟩⟩⟩)⟩, ⟨Kd.Q_of_R (by (with_reducible repeat (first | apply Kd.R_alloc | apply Kd.R_drewN | apply Kd.R_drew)); exact Kd.R_mono HO452.out (fun _ hk => ⟨hk.1.1.2.1, ⟨hk.1.1.2.2, ⟨hk.1.2, hk.2⟩⟩⟩))⟩, ⟨by (with_reducible repeat (first | refine blk_drewN ?_ _ | refine blk_drew ?_ | refine blk_alloc ?_ _)); exact BK463.out⟩, ⟨by repeat (first | (with_reducible first | exact HB.out | apply below_alloc | apply pw_below_drewN | apply below_drew1 | refine below_set ?_ GE463.out) | exact HB.out)⟩⟩
  subst c21
  rw [if_pos rfl] at H
  by_cases c22 : (t457.length : Int) = (t460.length : Int)
  · rw [if_pos c22] at H
    have c22b0 : ((t457.length : Int) == (t460.length : Int)) = true := beq_iff_eq.mpr c22
    have c22b1 : ((t457.length : Int) != (t460.length : Int)) = false := bne_eq_false_iff_eq.mpr c22
    have c22b2 : (t457.length == t460.length) = true := by first | simpa using c22 | (simp at c22 ⊢; omega)
    clear c22
    (first | rw [c22b0] | (simp only [i64_w, i32_w]; rw [c22b0]) | skip)
    have H' := Aside0.mk H
    clear H
    obtain ⟨Ao23, co23, eo23⟩ := Kd.R_slice HO466.out
    subst eo23
    go_wp2_with (first | ((with_reducible refine gate_callee (f := 21) rfl ?_); refine goesL_ (some 39) rfl rfl Try.func21 (by kernel_rfl) rfl #[.slice Ao23 t464.length co23] rfl (by (try simp only [List.map_toArray, List.map_cons, List.map_nil]); first | done | rfl | (simp only [List.length_drop, List.length_take]; rfl)) ?_; (with_reducible refine (laws_ascends.calls k _ _ t464 true _ ?side1 ?side2 A18.out).mono ?_); (case side1 => exact Kd.C_up ((Kd.R_reads' HO466.out).2.2)); (case side2 => exact (Kd.R_reads' HO466.out).2.1); rintro e w' ⟨rfl, ⟨nd, rfl⟩⟩; refine ⟨_, rfl, ?_⟩; obtain ⟨Ao24, co24, eo24⟩ := Kd.R_slice HO469.out; subst eo24) | (go_at_call 22; (with_reducible refine (laws_within.calls k _ _ t467 _ _ t464 true _ ?side1 ?side2 ?side3 ?side4 A20.out).mono ?_); (case side1 => exact Kd.C_up ((Kd.R_reads' HO469.out).2.2)); (case side2 => exact (Kd.R_reads' HO469.out).2.1); (case side3 => exact Kd.C_up ((Kd.R_reads' HO466.out).2.2)); (case side4 => exact (Kd.R_reads' HO466.out).2.1); rintro e w' ⟨rfl, ⟨nd, rfl⟩⟩))
    go_meet
    case rel => exact ⟨_, (false), (by first | rfl | (simp; done) | (simp [*]; done)), H', ⟨by first | omega | exact Nat.le_refl _⟩, ⟨by (with_reducible repeat (first | apply Kd.R_alloc | apply Kd.R_drewN | apply Kd.R_drew)); exact Kd.R_mono HO459.out (fun _ hk => ⟨hk.1.1.2.2, ⟨hk.1.2, ⟨hk.2, hk.1.1.1⟩⟩⟩)⟩, ⟨by (with_reducible repeat (first | apply Kd.R_alloc | apply Kd.R_drewN | apply Kd.R_drew)); exact Kd.R_mono HO462.out (fun _ hk => ⟨hk.1.1.2.2, ⟨hk.1.2, ⟨hk.2, hk.1.1.1⟩⟩⟩)⟩, ⟨by (with_reducible repeat (first | apply Kd.R_alloc | apply Kd.R_drewN | apply Kd.R_drew)); exact Kd.R_mono HO466.out (fun _ hk => ⟨hk.1.1.2, ⟨hk.1.2, ⟨hk.2, hk.1.1.1.1.2⟩⟩⟩)⟩, ⟨by (with_reducible repeat (first | apply Kd.R_alloc | apply Kd.R_drewN | apply Kd.R_drew)); exact Kd.R_mono HO469.out (fun _ hk => ⟨hk.1.1.2, ⟨hk.1.2, ⟨hk.2, hk.1.1.1.1.2⟩⟩⟩)⟩, ⟨Kd.Q_of_R (by (with_reducible repeat (first | apply Kd.R_alloc | apply Kd.R_drewN | apply Kd.R_drew)); exact Kd.R_mono HO452.out (fun _ hk => ⟨hk.1.1.2.1, ⟨hk.1.1.2.2, ⟨hk.1.2, hk.2⟩⟩⟩))⟩, ⟨by (with_reducible repeat (first | refine blk_drewN ?_ _ | refine blk_drew ?_ | refine blk_alloc ?_ _)); exact BK463.out⟩, ⟨by repeat (first | (with_reducible first | exact HB.out | apply below_alloc | apply pw_below_drewN | apply below_drew1 | refine below_set ?_ GE463.out) | exact HB.out)⟩⟩
  rw [if_neg c22] at H
  have c22b0 : ((t457.length : Int) == (t460.length : Int)) = false := beq_eq_false_iff_ne.mpr c22
  have c22b1 : ((t457.length : Int) != (t460.length : Int)) = true := bne_iff_ne.mpr c22
  have c22b2 : (t457.length == t460.length) = false := by first | simpa using c22 | (simp at c22 ⊢; omega)
  (first | rw [c22b0] | (simp only [i64_w, i32_w]; rw [c22b0]) | skip)
  have H' := Aside0.mk H
  clear H
  obtain ⟨Ao25, co25, eo25⟩ := Kd.R_slice HO466.out
  subst eo25
  go_wp2_with (first | ((with_reducible refine gate_callee (f := 21) rfl ?_); refine goesL_ (some 39) rfl rfl Try.func21 (by kernel_rfl) rfl #[.slice Ao25 t464.length co25] rfl (by (try simp only [List.map_toArray, List.map_cons, List.map_nil]); first | done | rfl | (simp only [List.length_drop, List.length_take]; rfl)) ?_; (with_reducible refine (laws_ascends.calls k _ _ t464 true _ ?side1 ?side2 A18.out).mono ?_); (case side1 => exact Kd.C_up ((Kd.R_reads' HO466.out).2.2)); (case side2 => exact (Kd.R_reads' HO466.out).2.1); rintro e w' ⟨rfl, ⟨nd, rfl⟩⟩; refine ⟨_, rfl, ?_⟩; obtain ⟨Ao26, co26, eo26⟩ := Kd.R_slice HO469.out; subst eo26) | (go_at_call 22; (with_reducible refine (laws_within.calls k _ _ t467 _ _ t464 true _ ?side1 ?side2 ?side3 ?side4 A20.out).mono ?_); (case side1 => exact Kd.C_up ((Kd.R_reads' HO469.out).2.2)); (case side2 => exact (Kd.R_reads' HO469.out).2.1); (case side3 => exact Kd.C_up ((Kd.R_reads' HO466.out).2.2)); (case side4 => exact (Kd.R_reads' HO466.out).2.1); rintro e w' ⟨rfl, ⟨nd, rfl⟩⟩))
  go_meet
  case rel => exact ⟨_, (decide ((t467.length : Int) > 0)), (by first | rfl | (simp; done) | (simp [*]; done)), H', ⟨by first | omega | exact Nat.le_refl _⟩, ⟨by (with_reducible repeat (first | apply Kd.R_alloc | apply Kd.R_drewN | apply Kd.R_drew)); exact Kd.R_mono HO459.out (fun _ hk => ⟨hk.1.1.2.2, ⟨hk.1.2, ⟨hk.2, hk.1.1.1⟩⟩⟩)⟩, ⟨by (with_reducible repeat (first | apply Kd.R_alloc | apply Kd.R_drewN | apply Kd.R_drew)); exact Kd.R_mono HO462.out (fun _ hk => ⟨hk.1.1.2.2, ⟨hk.1.2, ⟨hk.2, hk.1.1.1⟩⟩⟩)⟩, ⟨by (with_reducible repeat (first | apply Kd.R_alloc | apply Kd.R_drewN | apply Kd.R_drew)); exact Kd.R_mono HO466.out (fun _ hk => ⟨hk.1.1.2, ⟨hk.1.2, ⟨hk.2, hk.1.1.1.1.2⟩⟩⟩)⟩, ⟨by (with_reducible repeat (first | apply Kd.R_alloc | apply Kd.R_drewN | apply Kd.R_drew)); exact Kd.R_mono HO469.out (fun _ hk => ⟨hk.1.1.2, ⟨hk.1.2, ⟨hk.2, hk.1.1.1.1.2⟩⟩⟩)⟩, ⟨Kd.Q_of_R (by (with_reducible repeat (first | apply Kd.R_alloc | apply Kd.R_drewN | apply Kd.R_drew)); exact Kd.R_mono HO452.out (fun _ hk => ⟨hk.1.1.2.1, ⟨hk.1.1.2.2, ⟨hk.1.2, hk.2⟩⟩⟩))⟩, ⟨by (with_reducible repeat (first | refine blk_drewN ?_ _ | refine blk_drew ?_ | refine blk_alloc ?_ _)); exact BK463.out⟩, ⟨by repeat (first | (with_reducible first | exact HB.out | apply below_alloc | apply pw_below_drewN | apply below_drew1 | refine below_set ?_ GE463.out) | exact HB.out)⟩⟩
 case rest =>
  clear HC7
  try clear c1
  try clear c2
  try clear p2
  try clear c3
  try clear c5
  try clear c11
  try clear c18
  try clear c19
  try clear c20
  try clear c21
  try clear c22
  try clear c22b0
  try clear c22b1
  try clear c22b2
  try clear hcz10_0
  try clear hcz10_1
  try clear hcz10_2
  try clear hcz14_0
  try clear hcz14_1
  try clear hcz14_2
  try clear hfz10_0
  try clear hfz10_1
  try clear hfz10_2
  try clear hfz14_0
  try clear hfz14_1
  try clear hfz14_2
  obtain ⟨kq, x58_6, rfl, HA, HJ6, HO_6, HO_7, HO_8, HO_9, HO_464002, BK463, HB⟩ := hcut
  cases kq with
  | zero => exact absurd HA.out (by simp [laws_FnPlaces.j0])
  | succ kj6 =>
   have H := HA.out
   clear HA
   simp only [laws_FnPlaces.j0] at H
   by_cases c30 : x58_6 = true
   · subst c30
     rw [if_pos rfl] at H
     exact absurd H (by simp)
   replace c30 := Bool.eq_false_iff.mpr c30
   subst c30
   rw [if_neg (show ¬ (false = true) by decide)] at H
   have H' := Aside0.mk H
   clear H
   go_wp2
   go_loopg [10] kj6 (fun kq v10 w' => ∃ (x10_2 : Int), v10 = .int .i64 x10_2 ∧ Aside0 (laws_FnPlaces.l0 kq l0 t457 t460 t464 t467 x10_2 t448 t449 t450 = some true) ∧ Aside0 (kq ≤ kj6) ∧ Aside0 (Kd.R (Kd.int .i64) 3 w' w.heap.size (fun k_ => some k_ ≠ ((.slice Ao16 t460.length co16) : Value).ownBlock ∧ some k_ ≠ (v465 : Value).ownBlock ∧ some k_ ≠ (v468 : Value).ownBlock ∧ some k_ ≠ ((.slice Ao11 t450.length co11) : Value).ownBlock) (.slice Ao15 t457.length co15) t457) ∧ Aside0 (Kd.R (Kd.int .i64) 3 w' w.heap.size (fun k_ => some k_ ≠ ((.slice Ao15 t457.length co15) : Value).ownBlock ∧ some k_ ≠ (v465 : Value).ownBlock ∧ some k_ ≠ (v468 : Value).ownBlock ∧ some k_ ≠ ((.slice Ao11 t450.length co11) : Value).ownBlock) (.slice Ao16 t460.length co16) t460) ∧ Aside0 (Kd.R (Kd.int .i64) 3 w' w.heap.size (fun k_ => some k_ ≠ ((.slice Ao15 t457.length co15) : Value).ownBlock ∧ some k_ ≠ ((.slice Ao16 t460.length co16) : Value).ownBlock ∧ some k_ ≠ (v468 : Value).ownBlock ∧ some k_ ≠ ((.slice Ao11 t450.length co11) : Value).ownBlock) v465 t464) ∧ Aside0 (Kd.R (Kd.int .i64) 3 w' w.heap.size (fun k_ => some k_ ≠ ((.slice Ao15 t457.length co15) : Value).ownBlock ∧ some k_ ≠ ((.slice Ao16 t460.length co16) : Value).ownBlock ∧ some k_ ≠ (v465 : Value).ownBlock ∧ some k_ ≠ ((.slice Ao11 t450.length co11) : Value).ownBlock) v468 t467) ∧ Aside0 (Kd.Q (Kd.int .i64) 3 w' w.heap.size (fun k_ => some k_ ≠ ((.slice Ao15 t457.length co15) : Value).ownBlock ∧ some k_ ≠ ((.slice Ao16 t460.length co16) : Value).ownBlock ∧ some k_ ≠ (v465 : Value).ownBlock ∧ some k_ ≠ (v468 : Value).ownBlock) (.slice Ao11 t450.length co11) t450) ∧ Aside0 (w'.heap[gb463]? = some (.cells #[.int .i64 t448, .int .i64 t449, (.slice Ao11 t450.length co11)] 27 (0, 0))) ∧ Aside0 (Below w.heap.size w w'))
   case atStart => exact ⟨(0), (by first | rfl | (simp; done) | (simp [*]; done)), H', ⟨Nat.le_refl _⟩, ⟨by (with_reducible repeat (first | apply Kd.R_alloc | apply Kd.R_drewN | apply Kd.R_drew)); exact HO_6.out⟩, ⟨by (with_reducible repeat (first | apply Kd.R_alloc | apply Kd.R_drewN | apply Kd.R_drew)); exact HO_7.out⟩, ⟨by (with_reducible repeat (first | apply Kd.R_alloc | apply Kd.R_drewN | apply Kd.R_drew)); exact HO_8.out⟩, ⟨by (with_reducible repeat (first | apply Kd.R_alloc | apply Kd.R_drewN | apply Kd.R_drew)); exact HO_9.out⟩, ⟨by (with_reducible repeat (first | apply Kd.Q_alloc | apply Kd.Q_drewN | apply Kd.Q_drew)); exact HO_464002.out⟩, ⟨by (with_reducible repeat (first | refine blk_drewN ?_ _ | refine blk_drew ?_ | refine blk_alloc ?_ _)); exact BK463.out⟩, ⟨by repeat (first | (with_reducible first | exact HB.out | apply below_alloc | apply pw_below_drewN | apply below_drew1 | refine below_set ?_ GE463.out) | exact HB.out)⟩⟩
   case round =>
    clear H'
    try clear c1
    try clear c2
    try clear p2
    try clear c3
    try clear c5
    try clear c11
    try clear c18
    try clear c19
    try clear c20
    try clear c21
    try clear c22
    try clear c22b0
    try clear c22b1
    try clear c22b2
    try clear c30
    try clear hcz10_0
    try clear hcz10_1
    try clear hcz10_2
    try clear hcz14_0
    try clear hcz14_1
    try clear hcz14_2
    try clear hfz10_0
    try clear hfz10_1
    try clear hfz10_2
    try clear hfz14_0
    try clear hfz14_1
    try clear hfz14_2
    try clear p2
    obtain ⟨x10_2, rfl, HA, HK2, HO_6, HO_7, HO_8, HO_9, HO_464002, BK463, HB⟩ := hrel
    cases gk with
    | zero => exact absurd HA.out (by simp [laws_FnPlaces.l0])
    | succ k2 =>
     have H := HA.out
     clear HA
     simp only [laws_FnPlaces.l0] at H
     have HC31 := Aside0.mk H
     clear H
     go_upto_region 9 with (fail)
     go_cut [69] (fun v69 wc => ∃ (kq : Nat) (x69_30 : Bool), v69 = .bool x69_30 ∧ Aside0 (laws_FnPlaces.j2 kq l0 t457 t460 t464 t467 x10_2 x69_30 t448 t449 t450 = some true) ∧ Aside0 (kq ≤ k2) ∧ Aside0 (Kd.R (Kd.int .i64) 3 wc w.heap.size (fun k_ => some k_ ≠ ((.slice Ao16 t460.length co16) : Value).ownBlock ∧ some k_ ≠ (v465 : Value).ownBlock ∧ some k_ ≠ (v468 : Value).ownBlock ∧ some k_ ≠ ((.slice Ao11 t450.length co11) : Value).ownBlock) (.slice Ao15 t457.length co15) t457) ∧ Aside0 (Kd.R (Kd.int .i64) 3 wc w.heap.size (fun k_ => some k_ ≠ ((.slice Ao15 t457.length co15) : Value).ownBlock ∧ some k_ ≠ (v465 : Value).ownBlock ∧ some k_ ≠ (v468 : Value).ownBlock ∧ some k_ ≠ ((.slice Ao11 t450.length co11) : Value).ownBlock) (.slice Ao16 t460.length co16) t460) ∧ Aside0 (Kd.R (Kd.int .i64) 3 wc w.heap.size (fun k_ => some k_ ≠ ((.slice Ao15 t457.length co15) : Value).ownBlock ∧ some k_ ≠ ((.slice Ao16 t460.length co16) : Value).ownBlock ∧ some k_ ≠ (v468 : Value).ownBlock ∧ some k_ ≠ ((.slice Ao11 t450.length co11) : Value).ownBlock) v465 t464) ∧ Aside0 (Kd.R (Kd.int .i64) 3 wc w.heap.size (fun k_ => some k_ ≠ ((.slice Ao15 t457.length co15) : Value).ownBlock ∧ some k_ ≠ ((.slice Ao16 t460.length co16) : Value).ownBlock ∧ some k_ ≠ (v465 : Value).ownBlock ∧ some k_ ≠ ((.slice Ao11 t450.length co11) : Value).ownBlock) v468 t467) ∧ Aside0 (Kd.Q (Kd.int .i64) 3 wc w.heap.size (fun k_ => some k_ ≠ ((.slice Ao15 t457.length co15) : Value).ownBlock ∧ some k_ ≠ ((.slice Ao16 t460.length co16) : Value).ownBlock ∧ some k_ ≠ (v465 : Value).ownBlock ∧ some k_ ≠ (v468 : Value).ownBlock) (.slice Ao11 t450.length co11) t450) ∧ Aside0 (wc.heap[gb463]? = some (.cells #[.int .i64 t448, .int .i64 t449, (.slice Ao11 t450.length co11)] 27 (0, 0))) ∧ Aside0 (Below w.heap.size w wc))
     case first =>
      have H := HC31.out
      clear HC31
      by_cases c32 : x10_2 < (t464.length : Int)
      rotate_left
      · rw [if_neg c32] at H
        have c32b0 : decide (x10_2 < (t464.length : Int)) = false := decide_eq_false c32
        clear c32
        (first | rw [c32b0] | (simp only [i64_w, i32_w]; rw [c32b0]) | skip)
        have H' := Aside0.mk H
        clear H
        obtain ⟨Ao34, co34, eo34⟩ := Kd.R_slice HO_8.out
        subst eo34
        go_wp2
        go_meet
        case rel => exact ⟨_, (false), (by first | rfl | (simp; done) | (simp [*]; done)), H', ⟨by have := HJ6.out; have := HK2.out; first | omega | exact Nat.le_refl _⟩, ⟨by (with_reducible repeat (first | apply Kd.R_alloc | apply Kd.R_drewN | apply Kd.R_drew)); exact HO_6.out⟩, ⟨by (with_reducible repeat (first | apply Kd.R_alloc | apply Kd.R_drewN | apply Kd.R_drew)); exact HO_7.out⟩, ⟨by (with_reducible repeat (first | apply Kd.R_alloc | apply Kd.R_drewN | apply Kd.R_drew)); exact HO_8.out⟩, ⟨by (with_reducible repeat (first | apply Kd.R_alloc | apply Kd.R_drewN | apply Kd.R_drew)); exact HO_9.out⟩, ⟨by (with_reducible repeat (first | apply Kd.Q_alloc | apply Kd.Q_drewN | apply Kd.Q_drew)); exact HO_464002.out⟩, ⟨by (with_reducible repeat (first | refine blk_drewN ?_ _ | refine blk_drew ?_ | refine blk_alloc ?_ _)); exact BK463.out⟩, ⟨by repeat (first | (with_reducible first | exact HB.out | apply below_alloc | apply pw_below_drewN | apply below_drew1 | refine below_set ?_ GE463.out) | exact HB.out)⟩⟩
      rw [if_pos c32] at H
      have c32b0 : decide (x10_2 < (t464.length : Int)) = true := decide_eq_true c32
      clear c32
      (first | rw [c32b0] | (simp only [i64_w, i32_w]; rw [c32b0]) | skip)
      have H' := Aside0.mk H
      clear H
      obtain ⟨Ao33, co33, eo33⟩ := Kd.R_slice HO_8.out
      subst eo33
      go_wp2
      go_meet
      case rel => exact ⟨_, (((t457.length : Int) == (t460.length : Int))), (by first | rfl | (simp; done) | (simp [*]; done)), H', ⟨by have := HJ6.out; have := HK2.out; first | omega | exact Nat.le_refl _⟩, ⟨by (with_reducible repeat (first | apply Kd.R_alloc | apply Kd.R_drewN | apply Kd.R_drew)); exact HO_6.out⟩, ⟨by (with_reducible repeat (first | apply Kd.R_alloc | apply Kd.R_drewN | apply Kd.R_drew)); exact HO_7.out⟩, ⟨by (with_reducible repeat (first | apply Kd.R_alloc | apply Kd.R_drewN | apply Kd.R_drew)); exact HO_8.out⟩, ⟨by (with_reducible repeat (first | apply Kd.R_alloc | apply Kd.R_drewN | apply Kd.R_drew)); exact HO_9.out⟩, ⟨by (with_reducible repeat (first | apply Kd.Q_alloc | apply Kd.Q_drewN | apply Kd.Q_drew)); exact HO_464002.out⟩, ⟨by (with_reducible repeat (first | refine blk_drewN ?_ _ | refine blk_drew ?_ | refine blk_alloc ?_ _)); exact BK463.out⟩, ⟨by repeat (first | (with_reducible first | exact HB.out | apply below_alloc | apply pw_below_drewN | apply below_drew1 | refine below_set ?_ GE463.out) | exact HB.out)⟩⟩
     case rest =>
      clear HC31
      try clear c1
      try clear c2
      try clear p2
      try clear c3
      try clear c5
      try clear c11
      try clear c18
      try clear c19
      try clear c20
      try clear c21
      try clear c22
      try clear c22b0
      try clear c22b1
      try clear c22b2
      try clear c30
      try clear c32
      try clear c32b0
      try clear hcz10_0
      try clear hcz10_1
      try clear hcz10_2
      try clear hcz14_0
      try clear hcz14_1
      try clear hcz14_2
      try clear hfz10_0
      try clear hfz10_1
      try clear hfz10_2
      try clear hfz14_0
      try clear hfz14_1
      try clear hfz14_2
      try clear p2
      obtain ⟨kq, x69_30, rfl, HA, HJ30, HO_6, HO_7, HO_8, HO_9, HO_464002, BK463, HB⟩ := hcut
      cases kq with
      | zero => exact absurd HA.out (by simp [laws_FnPlaces.j2])
      | succ kj30 =>
       have H := HA.out
       clear HA
       simp only [laws_FnPlaces.j2] at H
       by_cases c35 : x69_30 = true
       · subst c35
         rw [if_pos rfl] at H
         have H' := Aside0.mk H
         clear H
         go_wp2
         go_loopg [11, 12] kj30 (fun kq v11 v12 w' => ∃ (x11_4 : Bool) (x12_4 : Int), v11 = .bool x11_4 ∧ v12 = .int .i64 x12_4 ∧ Aside0 (laws_FnPlaces.l1 kq l0 t457 t460 t464 t467 x10_2 x11_4 x12_4 t448 t449 t450 = some true) ∧ Aside0 (kq ≤ kj30) ∧ Aside0 (Kd.R (Kd.int .i64) 3 w' w.heap.size (fun k_ => some k_ ≠ ((.slice Ao16 t460.length co16) : Value).ownBlock ∧ some k_ ≠ (v465 : Value).ownBlock ∧ some k_ ≠ (v468 : Value).ownBlock ∧ some k_ ≠ ((.slice Ao11 t450.length co11) : Value).ownBlock) (.slice Ao15 t457.length co15) t457) ∧ Aside0 (Kd.R (Kd.int .i64) 3 w' w.heap.size (fun k_ => some k_ ≠ ((.slice Ao15 t457.length co15) : Value).ownBlock ∧ some k_ ≠ (v465 : Value).ownBlock ∧ some k_ ≠ (v468 : Value).ownBlock ∧ some k_ ≠ ((.slice Ao11 t450.length co11) : Value).ownBlock) (.slice Ao16 t460.length co16) t460) ∧ Aside0 (Kd.R (Kd.int .i64) 3 w' w.heap.size (fun k_ => some k_ ≠ ((.slice Ao15 t457.length co15) : Value).ownBlock ∧ some k_ ≠ ((.slice Ao16 t460.length co16) : Value).ownBlock ∧ some k_ ≠ (v468 : Value).ownBlock ∧ some k_ ≠ ((.slice Ao11 t450.length co11) : Value).ownBlock) v465 t464) ∧ Aside0 (Kd.R (Kd.int .i64) 3 w' w.heap.size (fun k_ => some k_ ≠ ((.slice Ao15 t457.length co15) : Value).ownBlock ∧ some k_ ≠ ((.slice Ao16 t460.length co16) : Value).ownBlock ∧ some k_ ≠ (v465 : Value).ownBlock ∧ some k_ ≠ ((.slice Ao11 t450.length co11) : Value).ownBlock) v468 t467) ∧ Aside0 (Kd.Q (Kd.int .i64) 3 w' w.heap.size (fun k_ => some k_ ≠ ((.slice Ao15 t457.length co15) : Value).ownBlock ∧ some k_ ≠ ((.slice Ao16 t460.length co16) : Value).ownBlock ∧ some k_ ≠ (v465 : Value).ownBlock ∧ some k_ ≠ (v468 : Value).ownBlock) (.slice Ao11 t450.length co11) t450) ∧ Aside0 (w'.heap[gb463]? = some (.cells #[.int .i64 t448, .int .i64 t449, (.slice Ao11 t450.length co11)] 27 (0, 0))) ∧ Aside0 (Below w.heap.size w w'))
         case atStart => exact ⟨(true), (0), (by first | rfl | (simp; done) | (simp [*]; done)), (by first | rfl | (simp; done) | (simp [*]; done)), H', ⟨Nat.le_refl _⟩, ⟨by (with_reducible repeat (first | apply Kd.R_alloc | apply Kd.R_drewN | apply Kd.R_drew)); exact HO_6.out⟩, ⟨by (with_reducible repeat (first | apply Kd.R_alloc | apply Kd.R_drewN | apply Kd.R_drew)); exact HO_7.out⟩, ⟨by (with_reducible repeat (first | apply Kd.R_alloc | apply Kd.R_drewN | apply Kd.R_drew)); exact HO_8.out⟩, ⟨by (with_reducible repeat (first | apply Kd.R_alloc | apply Kd.R_drewN | apply Kd.R_drew)); exact HO_9.out⟩, ⟨by (with_reducible repeat (first | apply Kd.Q_alloc | apply Kd.Q_drewN | apply Kd.Q_drew)); exact HO_464002.out⟩, ⟨by (with_reducible repeat (first | refine blk_drewN ?_ _ | refine blk_drew ?_ | refine blk_alloc ?_ _)); exact BK463.out⟩, ⟨by repeat (first | (with_reducible first | exact HB.out | apply below_alloc | apply pw_below_drewN | apply below_drew1 | refine below_set ?_ GE463.out) | exact HB.out)⟩⟩
         case round =>
          clear H'
          try clear c1
          try clear c2
          try clear p2
          try clear c3
          try clear c5
          try clear c11
          try clear c18
          try clear c19
          try clear c20
          try clear c21
          try clear c22
          try clear c22b0
          try clear c22b1
          try clear c22b2
          try clear c30
          try clear c32
          try clear c32b0
          try clear c35
          try clear hcz10_0
          try clear hcz10_1
          try clear hcz10_2
          try clear hcz14_0
          try clear hcz14_1
          try clear hcz14_2
          try clear hfz10_0
          try clear hfz10_1
          try clear hfz10_2
          try clear hfz14_0
          try clear hfz14_1
          try clear hfz14_2
          try clear p2
          obtain ⟨x11_4, x12_4, rfl, rfl, HA, HK4, HO_6, HO_7, HO_8, HO_9, HO_464002, BK463, HB⟩ := hrel
          cases gk with
          | zero => exact absurd HA.out (by simp [laws_FnPlaces.l1])
          | succ k4 =>
           have H := HA.out
           clear HA
           simp only [laws_FnPlaces.l1] at H
           by_cases c36 : x12_4 < (t457.length : Int)
           rotate_left
           · rw [if_neg c36] at H
             have c36b0 : decide (x12_4 < (t457.length : Int)) = false := decide_eq_false c36
             clear c36
             by_cases c51 : 0 ≤ x10_2
             rotate_left
             · rw [if_neg c51] at H
               exact absurd H (by simp)
             rw [if_pos c51] at H
             have c51b0 : decide (0 ≤ x10_2) = true := decide_eq_true c51
             clear c51
             by_cases c52 : x10_2 < (t464.length : Int)
             rotate_left
             · rw [if_neg c52] at H
               exact absurd H (by simp)
             rw [if_pos c52] at H
             have c52b0 : decide (x10_2 < (t464.length : Int)) = true := decide_eq_true c52
             clear c52
             replace H := Option.bind_eq_some_iff.mp H
             obtain ⟨t478, A530, H⟩ := H
             have A53 := Aside0.mk A530
             clear A530
             by_cases c54 : (x11_4 != t478) = true
             · rw [if_pos c54] at H
               have c54b0 : (x11_4 != t478) = true := c54
               (try (have c54b1 : decide (x11_4 = t478) = false := by simpa using c54))
               (try (have c54b2 : (x11_4 == t478) = false := by simpa using c54))
               (try (have c54b3 : ¬ (x11_4 = t478) := by simpa using c54))
               clear c54
               exact absurd H (by simp)
             rw [if_neg c54] at H
             have c54b0 : (x11_4 != t478) = false := by simpa using c54
             (try (have c54b1 : decide (x11_4 = t478) = true := by simpa using c54))
             (try (have c54b2 : (x11_4 == t478) = true := by simpa using c54))
             clear c54
             have H' := Aside0.mk H
             clear H
             obtain ⟨Ao57, co57, eo57⟩ := Kd.R_slice HO_8.out
             subst eo57
             have p477 : 0 ≤ (x10_2 : Int) := of_decide_eq_true (by first | (with_reducible assumption) | assumption)
             have q477 : x10_2 < (t464.length : Int) := of_decide_eq_true (by first | (with_reducible assumption) | assumption)
             obtain ⟨ad477, e477, hx477_0⟩ := Kd.at_int (Kd.R_reads' HO_8.out).2.2 x10_2 p477 q477
             cases e477
             replace p477 := eq_true p477
             replace q477 := eq_true q477
             obtain ⟨Ao58, co58, eo58⟩ := Kd.R_slice HO_9.out
             subst eo58
             go_wp2_with (first | ((with_reducible refine gate_callee (f := 24) rfl ?_); refine goesL_ (some 109) rfl rfl Try.func24 (by kernel_rfl) rfl #[.slice Ao58 t467.length co58, .int .i64 (rd t464 x10_2)] rfl (by (try simp only [List.map_toArray, List.map_cons, List.map_nil]); first | done | rfl | (simp only [List.length_drop, List.length_take]; rfl)) ?_; (with_reducible refine (laws_contains.calls k4 _ _ t467 (rd t464 x10_2) t478 _ ?side1 ?side2 A53.out).mono ?_); (case side1 => exact Kd.C_up ((Kd.R_reads' HO_9.out).2.2)); (case side2 => exact (Kd.R_reads' HO_9.out).2.1); rintro e w' ⟨rfl, ⟨nd, rfl⟩⟩; refine ⟨_, rfl, ?_⟩))
             go_roundg k4
             case measure => have := HJ6.out; have := HK2.out; have := HJ30.out; have := HK4.out; omega
             case rel => exact ⟨(wrap64 (x10_2 + 1)), (by first | rfl | (simp; done) | (simp [*]; done)), H', ⟨by have := HJ6.out; have := HK2.out; have := HJ30.out; have := HK4.out; omega⟩, ⟨by (with_reducible repeat (first | apply Kd.R_alloc | apply Kd.R_drewN | apply Kd.R_drew)); exact HO_6.out⟩, ⟨by (with_reducible repeat (first | apply Kd.R_alloc | apply Kd.R_drewN | apply Kd.R_drew)); exact HO_7.out⟩, ⟨by (with_reducible repeat (first | apply Kd.R_alloc | apply Kd.R_drewN | apply Kd.R_drew)); exact HO_8.out⟩, ⟨by (with_reducible repeat (first | apply Kd.R_alloc | apply Kd.R_drewN | apply Kd.R_drew)); exact HO_9.out⟩, ⟨by (with_reducible repeat (first | apply Kd.Q_alloc | apply Kd.Q_drewN | apply Kd.Q_drew)); exact HO_464002.out⟩, ⟨by (with_reducible repeat (first | refine blk_drewN ?_ _ | refine blk_drew ?_ | refine blk_alloc ?_ _)); exact BK463.out⟩, ⟨by repeat (first | (with_reducible first | exact HB.out | apply below_alloc | apply pw_below_drewN | apply below_drew1 | refine below_set ?_ GE463.out) | exact HB.out)⟩⟩
           rw [if_pos c36] at H
           have c36b0 : decide (x12_4 < (t457.length : Int)) = true := decide_eq_true c36
           clear c36
           by_cases c37 : x11_4 = true
           rotate_left
           · replace c37 := Bool.eq_false_iff.mpr c37
             subst c37
             rw [if_neg (show ¬ (false = true) by decide)] at H
             have H' := Aside0.mk H
             clear H
             try go_wp2
             have n0_ := Aside0.mk (Kd.R_drew HO_6.out)
             have n1_ := Aside0.mk (Kd.R_drew HO_7.out)
             have n2_ := Aside0.mk (Kd.R_drew HO_8.out)
             have n3_ := Aside0.mk (Kd.R_drew HO_9.out)
             have n4_ := Aside0.mk (Kd.Q_drew HO_464002.out)
             have n5_ := Aside0.mk (blk_drew BK463.out)
             have n6_ := Aside0.mk (below_drew1 HB.out)
             clear HO_6
             clear HO_7
             clear HO_8
             clear HO_9
             clear HO_464002
             clear BK463
             clear HB
             have HO_6 := n0_
             have HO_7 := n1_
             have HO_8 := n2_
             have HO_9 := n3_
             have HO_464002 := n4_
             have BK463 := n5_
             have HB := n6_
             clear n0_ n1_ n2_ n3_ n4_ n5_ n6_
             refine start_ (n := 26) (S := fun w' => True) (ds := []) (ar 26 0 []) (by kernel_rfl) rfl rfl trivial (fun hHeld => ?_); refine with_tabW laws_FnPlaces.tab15 laws_FnPlaces.bits15 (fun HT_ HW_ => ?_)
             generalize wr.drew = w50 at HO_6 HO_7 HO_8 HO_9 HO_464002 BK463 HB hHeld ⊢
             refine pure_ (i := 0) (N := some 78) (v := ?_) (a' := ?_) (ar 26 1 []) rfl rfl (any_of HT_.out (by kernel_rfl)) (fun _ _ _ h => h) (Or.inl ⟨by rfl, ?_⟩) ?_ ?_
             rotate_left
             · intro w'
               go_simp
               with_reducible rfl
             rotate_left
             · simp only [Act.put, List.setIfInBounds_toArray, List.set_cons_zero, List.set_cons_succ, i64_w, i32_w]
               rfl
             refine pure_ (i := 1) (N := some 79) (v := ?_) (a' := ?_) (ar 26 2 []) rfl rfl (any_of HT_.out (by kernel_rfl)) (fun _ _ _ h => h) (Or.inl ⟨by rfl, ?_⟩) ?_ ?_
             rotate_left
             · intro w'
               go_simp
               with_reducible rfl
             rotate_left
             · simp only [Act.put, List.setIfInBounds_toArray, List.set_cons_zero, List.set_cons_succ, i64_w, i32_w]
               rfl
             refine pure_ (i := 2) (N := some 80) (v := undef) (a' := ?_) (ar 26 3 []) rfl rfl (any_of HT_.out (by kernel_rfl)) (fun _ _ _ h => h) (Or.inr ⟨by rfl, rfl⟩) ?_ ?_
             rotate_left
             · simp only [Act.put, List.setIfInBounds_toArray, List.set_cons_zero, List.set_cons_succ, i64_w, i32_w]
               rfl
             refine pure_ (i := 3) (N := some 81) (v := undef) (a' := ?_) (ar 26 4 []) rfl rfl (any_of HT_.out (by kernel_rfl)) (fun _ _ _ h => h) (Or.inr ⟨by rfl, rfl⟩) ?_ ?_
             rotate_left
             · simp only [Act.put, List.setIfInBounds_toArray, List.set_cons_zero, List.set_cons_succ, i64_w, i32_w]
               rfl
             refine pure_ (i := 4) (N := some 82) (v := undef) (a' := ?_) (ar 26 5 []) rfl rfl (any_of HT_.out (by kernel_rfl)) (fun _ _ _ h => h) (Or.inr ⟨by rfl, rfl⟩) ?_ ?_
             rotate_left
             · simp only [Act.put, List.setIfInBounds_toArray, List.set_cons_zero, List.set_cons_succ, i64_w, i32_w]
               rfl
             refine pure_ (i := 5) (N := some 83) (v := undef) (a' := ?_) (ar 26 6 []) rfl rfl (any_of HT_.out (by kernel_rfl)) (fun _ _ _ h => h) (Or.inr ⟨by rfl, rfl⟩) ?_ ?_
             rotate_left
             · simp only [Act.put, List.setIfInBounds_toArray, List.set_cons_zero, List.set_cons_succ, i64_w, i32_w]
               rfl
             refine pure_ (i := 6) (N := some 84) (v := undef) (a' := ?_) (ar 26 7 []) rfl rfl (any_of HT_.out (by kernel_rfl)) (fun _ _ _ h => h) (Or.inr ⟨by rfl, rfl⟩) ?_ ?_
             rotate_left
             · simp only [Act.put, List.setIfInBounds_toArray, List.set_cons_zero, List.set_cons_succ, i64_w, i32_w]
               rfl
             refine pure_ (i := 7) (N := some 85) (v := undef) (a' := ?_) (ar 26 8 []) rfl rfl (any_of HT_.out (by kernel_rfl)) (fun _ _ _ h => h) (Or.inr ⟨by rfl, rfl⟩) ?_ ?_
             rotate_left
             · simp only [Act.put, List.setIfInBounds_toArray, List.set_cons_zero, List.set_cons_succ, i64_w, i32_w]
               rfl
             refine pure_ (i := 8) (N := some 86) (v := undef) (a' := ?_) (ar 26 9 []) rfl rfl (any_of HT_.out (by kernel_rfl)) (fun _ _ _ h => h) (Or.inr ⟨by rfl, rfl⟩) ?_ ?_
             rotate_left
             · simp only [Act.put, List.setIfInBounds_toArray, List.set_cons_zero, List.set_cons_succ, i64_w, i32_w]
               rfl
             refine pure_ (i := 9) (N := some 87) (v := undef) (a' := ?_) (ar 26 10 []) rfl rfl (any_of HT_.out (by kernel_rfl)) (fun _ _ _ h => h) (Or.inr ⟨by rfl, rfl⟩) ?_ ?_
             rotate_left
             · simp only [Act.put, List.setIfInBounds_toArray, List.set_cons_zero, List.set_cons_succ, i64_w, i32_w]
               rfl
             refine pure_ (i := 10) (N := some 88) (v := undef) (a' := ?_) (ar 26 11 []) rfl rfl (any_of HT_.out (by kernel_rfl)) (fun _ _ _ h => h) (Or.inr ⟨by rfl, rfl⟩) ?_ ?_
             rotate_left
             · simp only [Act.put, List.setIfInBounds_toArray, List.set_cons_zero, List.set_cons_succ, i64_w, i32_w]
               rfl
             refine pure_ (i := 11) (N := some 89) (v := undef) (a' := ?_) (ar 26 12 []) rfl rfl (any_of HT_.out (by kernel_rfl)) (fun _ _ _ h => h) (Or.inr ⟨by rfl, rfl⟩) ?_ ?_
             rotate_left
             · simp only [Act.put, List.setIfInBounds_toArray, List.set_cons_zero, List.set_cons_succ, i64_w, i32_w]
               rfl
             refine pure_ (i := 12) (N := some 90) (v := undef) (a' := ?_) (ar 26 13 []) rfl rfl (any_of HT_.out (by kernel_rfl)) (fun _ _ _ h => h) (Or.inr ⟨by rfl, rfl⟩) ?_ ?_
             rotate_left
             · simp only [Act.put, List.setIfInBounds_toArray, List.set_cons_zero, List.set_cons_succ, i64_w, i32_w]
               rfl
             refine pure_ (i := 13) (N := some 91) (v := undef) (a' := ?_) (ar 26 14 []) rfl rfl (any_of HT_.out (by kernel_rfl)) (fun _ _ _ h => h) (Or.inr ⟨by rfl, rfl⟩) ?_ ?_
             rotate_left
             · simp only [Act.put, List.setIfInBounds_toArray, List.set_cons_zero, List.set_cons_succ, i64_w, i32_w]
               rfl
             refine pure_ (i := 14) (N := some 92) (v := undef) (a' := ?_) (ar 26 15 []) rfl rfl (any_of HT_.out (by kernel_rfl)) (fun _ _ _ h => h) (Or.inr ⟨by rfl, rfl⟩) ?_ ?_
             rotate_left
             · simp only [Act.put, List.setIfInBounds_toArray, List.set_cons_zero, List.set_cons_succ, i64_w, i32_w]
               rfl
             refine pure_ (i := 15) (N := some 93) (v := undef) (a' := ?_) (ar 26 16 []) rfl rfl (any_of HT_.out (by kernel_rfl)) (fun _ _ _ h => h) (Or.inr ⟨by rfl, rfl⟩) ?_ ?_
             rotate_left
             · simp only [Act.put, List.setIfInBounds_toArray, List.set_cons_zero, List.set_cons_succ, i64_w, i32_w]
               rfl
             refine pure_ (i := 16) (N := some 94) (v := undef) (a' := ?_) (ar 26 17 []) rfl rfl (any_of HT_.out (by kernel_rfl)) (fun _ _ _ h => h) (Or.inr ⟨by rfl, rfl⟩) ?_ ?_
             rotate_left
             · simp only [Act.put, List.setIfInBounds_toArray, List.set_cons_zero, List.set_cons_succ, i64_w, i32_w]
               rfl
             refine pure_ (i := 17) (N := some 95) (v := ?_) (a' := ?_) (ar 26 18 []) rfl rfl (any_of HT_.out (by kernel_rfl)) (fun _ _ _ h => h) (Or.inl ⟨by rfl, ?_⟩) ?_ ?_
             rotate_left
             · intro w'
               go_simp
               with_reducible rfl
             rotate_left
             · simp only [Act.put, List.setIfInBounds_toArray, List.set_cons_zero, List.set_cons_succ, i64_w, i32_w]
               rfl
             refine pure_ (i := 18) (N := some 96) (v := ?_) (a' := ?_) (ar 26 19 []) rfl rfl (any_of HT_.out (by kernel_rfl)) (fun _ _ _ h => h) (Or.inl ⟨by rfl, ?_⟩) ?_ ?_
             rotate_left
             · intro w'
               go_simp
               with_reducible rfl
             rotate_left
             · simp only [Act.put, List.setIfInBounds_toArray, List.set_cons_zero, List.set_cons_succ, i64_w, i32_w]
               rfl
             refine pure_ (i := 19) (N := some 97) (v := undef) (a' := ?_) (ar 26 20 []) rfl rfl (any_of HT_.out (by kernel_rfl)) (fun _ _ _ h => h) (Or.inr ⟨by rfl, rfl⟩) ?_ ?_
             rotate_left
             · simp only [Act.put, List.setIfInBounds_toArray, List.set_cons_zero, List.set_cons_succ, i64_w, i32_w]
               rfl
             refine pure_ (i := 20) (N := some 98) (v := undef) (a' := ?_) (ar 26 21 []) rfl rfl (any_of HT_.out (by kernel_rfl)) (fun _ _ _ h => h) (Or.inr ⟨by rfl, rfl⟩) ?_ ?_
             rotate_left
             · simp only [Act.put, List.setIfInBounds_toArray, List.set_cons_zero, List.set_cons_succ, i64_w, i32_w]
               rfl
             refine pure_ (i := 21) (N := some 99) (v := undef) (a' := ?_) (ar 26 22 []) rfl rfl (any_of HT_.out (by kernel_rfl)) (fun _ _ _ h => h) (Or.inr ⟨by rfl, rfl⟩) ?_ ?_
             rotate_left
             · simp only [Act.put, List.setIfInBounds_toArray, List.set_cons_zero, List.set_cons_succ, i64_w, i32_w]
               rfl
             refine pure_ (i := 22) (N := some 100) (v := undef) (a' := ?_) (ar 26 23 []) rfl rfl (any_of HT_.out (by kernel_rfl)) (fun _ _ _ h => h) (Or.inr ⟨by rfl, rfl⟩) ?_ ?_
             rotate_left
             · simp only [Act.put, List.setIfInBounds_toArray, List.set_cons_zero, List.set_cons_succ, i64_w, i32_w]
               rfl
             refine pure_ (i := 23) (N := some 101) (v := undef) (a' := ?_) (ar 26 24 []) rfl rfl (any_of HT_.out (by kernel_rfl)) (fun _ _ _ h => h) (Or.inr ⟨by rfl, rfl⟩) ?_ ?_
             rotate_left
             · simp only [Act.put, List.setIfInBounds_toArray, List.set_cons_zero, List.set_cons_succ, i64_w, i32_w]
               rfl
             refine pure_ (i := 24) (N := some 102) (v := ?_) (a' := ?_) (ar 26 25 []) rfl rfl (any_of HT_.out (by kernel_rfl)) (fun _ _ _ h => h) (Or.inl ⟨by rfl, ?_⟩) ?_ ?_
             rotate_left
             · intro w'
               go_simp
               with_reducible rfl
             rotate_left
             · simp only [Act.put, List.setIfInBounds_toArray, List.set_cons_zero, List.set_cons_succ, i64_w, i32_w]
               rfl
             refine pure_ (i := 25) (N := some 11) (v := ?_) (a' := ?_) (ar 26 26 []) rfl rfl (any_of HT_.out (by kernel_rfl)) (fun _ _ _ h => h) (Or.inl ⟨by rfl, ?_⟩) ?_ ?_
             rotate_left
             · intro w'
               go_simp
               with_reducible rfl
             rotate_left
             · simp only [Act.put, List.setIfInBounds_toArray, List.set_cons_zero, List.set_cons_succ, i64_w, i32_w]
               rfl
             refine done_ (done_of HT_.out (by kernel_rfl)) ?_
             try go_wp2
             go_roundg k4
             case measure => have := HJ6.out; have := HK2.out; have := HJ30.out; have := HK4.out; omega
             case rel => exact ⟨(false), (wrap64 (x12_4 + 1)), (by first | rfl | (simp; done) | (simp [*]; done)), (by first | rfl | (simp; done) | (simp [*]; done)), H', ⟨by have := HJ6.out; have := HK2.out; have := HJ30.out; have := HK4.out; omega⟩, ⟨by (with_reducible repeat (first | apply Kd.R_alloc | apply Kd.R_drewN | apply Kd.R_drew)); exact HO_6.out⟩, ⟨by (with_reducible repeat (first | apply Kd.R_alloc | apply Kd.R_drewN | apply Kd.R_drew)); exact HO_7.out⟩, ⟨by (with_reducible repeat (first | apply Kd.R_alloc | apply Kd.R_drewN | apply Kd.R_drew)); exact HO_8.out⟩, ⟨by (with_reducible repeat (first | apply Kd.R_alloc | apply Kd.R_drewN | apply Kd.R_drew)); exact HO_9.out⟩, ⟨by (with_reducible repeat (first | apply Kd.Q_alloc | apply Kd.Q_drewN | apply Kd.Q_drew)); exact HO_464002.out⟩, ⟨by (with_reducible repeat (first | refine blk_drewN ?_ _ | refine blk_drew ?_ | refine blk_alloc ?_ _)); exact BK463.out⟩, ⟨by repeat (first | (with_reducible first | exact HB.out | apply below_alloc | apply pw_below_drewN | apply below_drew1 | refine below_set ?_ GE463.out) | exact HB.out)⟩⟩
           subst c37
           rw [if_pos rfl] at H
           by_cases c38 : 0 ≤ x12_4
           rotate_left
           · rw [if_neg c38] at H
             exact absurd H (by simp)
           rw [if_pos c38] at H
           have c38b0 : decide (0 ≤ x12_4) = true := decide_eq_true c38
           clear c38
           by_cases c39 : 0 ≤ x10_2
           rotate_left
           · rw [if_neg c39] at H
             exact absurd H (by simp)
           rw [if_pos c39] at H
           have c39b0 : decide (0 ≤ x10_2) = true := decide_eq_true c39
           clear c39
           by_cases c40 : x10_2 < (t464.length : Int)
           rotate_left
           · rw [if_neg c40] at H
             exact absurd H (by simp)
           rw [if_pos c40] at H
           have c40b0 : decide (x10_2 < (t464.length : Int)) = true := decide_eq_true c40
           clear c40
           replace H := Option.bind_eq_some_iff.mp H
           obtain ⟨t474, A410, H⟩ := H
           have A41 := Aside0.mk A410
           clear A410
           by_cases c42 : x12_4 < (t460.length : Int)
           rotate_left
           · rw [if_neg c42] at H
             exact absurd H (by simp)
           rw [if_pos c42] at H
           have c42b0 : decide (x12_4 < (t460.length : Int)) = true := decide_eq_true c42
           clear c42
           by_cases c43 : t474 = (rd t460 x12_4)
           rotate_left
           · rw [if_neg c43] at H
             have c43b0 : (t474 == (rd t460 x12_4)) = false := beq_eq_false_iff_ne.mpr c43
             have c43b1 : (t474 != (rd t460 x12_4)) = true := bne_iff_ne.mpr c43
             have H' := Aside0.mk H
             clear H
             try go_wp2
             have n0_ := Aside0.mk (Kd.R_drew HO_6.out)
             have n1_ := Aside0.mk (Kd.R_drew HO_7.out)
             have n2_ := Aside0.mk (Kd.R_drew HO_8.out)
             have n3_ := Aside0.mk (Kd.R_drew HO_9.out)
             have n4_ := Aside0.mk (Kd.Q_drew HO_464002.out)
             have n5_ := Aside0.mk (blk_drew BK463.out)
             have n6_ := Aside0.mk (below_drew1 HB.out)
             clear HO_6
             clear HO_7
             clear HO_8
             clear HO_9
             clear HO_464002
             clear BK463
             clear HB
             have HO_6 := n0_
             have HO_7 := n1_
             have HO_8 := n2_
             have HO_9 := n3_
             have HO_464002 := n4_
             have BK463 := n5_
             have HB := n6_
             clear n0_ n1_ n2_ n3_ n4_ n5_ n6_
             have p472 : 0 ≤ (x12_4 : Int) := of_decide_eq_true (by first | (with_reducible assumption) | assumption)
             have q472 : x12_4 < (t457.length : Int) := of_decide_eq_true (by first | (with_reducible assumption) | assumption)
             obtain ⟨ad472, e472, hx472_0⟩ := Kd.at_int (Kd.R_reads' HO_6.out).2.2 x12_4 p472 q472
             cases e472
             replace p472 := eq_true p472
             replace q472 := eq_true q472
             obtain ⟨Ao48, co48, eo48⟩ := Kd.R_slice HO_8.out
             (first | subst eo48 | (injection eo48 with f1_ f2_ f3_; have f4_ := f1_.symm; have f5_ := f3_.symm; clear f1_ f2_ f3_; subst f4_; subst f5_))
             have p473 : 0 ≤ (x10_2 : Int) := of_decide_eq_true (by first | (with_reducible assumption) | assumption)
             have q473 : x10_2 < (t464.length : Int) := of_decide_eq_true (by first | (with_reducible assumption) | assumption)
             obtain ⟨ad473, e473, hx473_0⟩ := Kd.at_int (Kd.R_reads' HO_8.out).2.2 x10_2 p473 q473
             cases e473
             replace p473 := eq_true p473
             replace q473 := eq_true q473
             have p475 : 0 ≤ (x12_4 : Int) := of_decide_eq_true (by first | (with_reducible assumption) | assumption)
             have q475 : x12_4 < (t460.length : Int) := of_decide_eq_true (by first | (with_reducible assumption) | assumption)
             obtain ⟨ad475, e475, hx475_0⟩ := Kd.at_int (Kd.R_reads' HO_7.out).2.2 x12_4 p475 q475
             cases e475
             replace p475 := eq_true p475
             replace q475 := eq_true q475
             refine start_ (n := 26) (S := fun w' => w'.cell? ⟨gb463, 0, none⟩ = some (.int .i64 t448) ∧ w'.cell? ⟨gb463, 1, none⟩ = some (.int .i64 t449) ∧ w'.cell? ⟨gb463, 2, none⟩ = some (.slice Ao11 t450.length co11) ∧ w'.cell? (ad472.add (x12_4).toNat) = some (.int .i64 (rd t457 x12_4)) ∧ w'.cell? (ad473.add (x10_2).toNat) = some (.int .i64 (rd t464 x10_2)) ∧ w'.cell? (ad475.add (x12_4).toNat) = some (.int .i64 (rd t460 x12_4))) (ds := []) (ar 26 0 []) (by kernel_rfl) rfl rfl ⟨(blk_cell BK463.out 0).trans rfl, (blk_cell BK463.out 1).trans rfl, (blk_cell BK463.out 2).trans rfl, hx472_0, hx473_0, hx475_0⟩ (fun hHeld => ?_); refine with_tabW laws_FnPlaces.tab15 laws_FnPlaces.bits15 (fun HT_ HW_ => ?_)
             generalize wr.drew = w47 at HO_6 HO_7 HO_8 HO_9 HO_464002 BK463 HB hx472_0 hx473_0 hx475_0 hHeld ⊢
             refine pure_ (i := 0) (N := some 78) (v := ?_) (a' := ?_) (ar 26 1 []) rfl rfl (any_of HT_.out (by kernel_rfl)) (fun _ _ _ h => h) (Or.inl ⟨by rfl, ?_⟩) ?_ ?_
             rotate_left
             · intro w'
               go_simp
               with_reducible rfl
             rotate_left
             · simp only [Act.put, List.setIfInBounds_toArray, List.set_cons_zero, List.set_cons_succ, i64_w, i32_w]
               rfl
             refine pure_ (i := 1) (N := some 79) (v := ?_) (a' := ?_) (ar 26 2 []) rfl rfl (any_of HT_.out (by kernel_rfl)) (fun _ _ _ h => h) (Or.inl ⟨by rfl, ?_⟩) ?_ ?_
             rotate_left
             · intro w'
               go_simp
               with_reducible rfl
             rotate_left
             · simp only [Act.put, List.setIfInBounds_toArray, List.set_cons_zero, List.set_cons_succ, i64_w, i32_w]
               rfl
             refine pure_ (i := 3) (N := some 81) (v := ?_) (a' := ?_) (ar 26 4 [2]) rfl rfl (any_of HT_.out (by kernel_rfl)) (fun _ _ _ h => h) (Or.inl ⟨by rfl, ?_⟩) ?_ ?_
             rotate_left
             · intro w'
               go_simp
               with_reducible rfl
             rotate_left
             · simp only [Act.put, List.setIfInBounds_toArray, List.set_cons_zero, List.set_cons_succ, i64_w, i32_w]
               rfl
             refine pure_ (i := 4) (N := some 82) (v := ?_) (a' := ?_) (ar 26 5 [2]) rfl rfl (any_of HT_.out (by kernel_rfl)) (fun _ _ _ h => h) (Or.inl ⟨by rfl, ?_⟩) ?_ ?_
             rotate_left
             · intro w'
               go_simp
               with_reducible rfl
             rotate_left
             · simp only [Act.put, List.setIfInBounds_toArray, List.set_cons_zero, List.set_cons_succ, i64_w, i32_w]
               rfl
             refine pure_ (i := 5) (N := some 83) (v := ?_) (a' := ?_) (ar 26 6 [2]) rfl rfl (any_of HT_.out (by kernel_rfl)) (fun _ _ _ h => h) (Or.inl ⟨by rfl, ?_⟩) ?_ ?_
             rotate_left
             · intro w'
               go_simp
               with_reducible rfl
             rotate_left
             · simp only [Act.put, List.setIfInBounds_toArray, List.set_cons_zero, List.set_cons_succ, i64_w, i32_w]
               rfl
             refine pure_ (i := 7) (N := some 85) (v := ?_) (a' := ?_) (ar 26 8 [2, 6]) rfl rfl (any_of HT_.out (by kernel_rfl)) (fun _ _ _ h => h) (Or.inl ⟨by rfl, ?_⟩) ?_ ?_
             rotate_left
             · intro w'
               go_simp
               with_reducible rfl
             rotate_left
             · simp only [Act.put, List.setIfInBounds_toArray, List.set_cons_zero, List.set_cons_succ, i64_w, i32_w]
               rfl
             refine pure_ (i := 8) (N := some 86) (v := ?_) (a' := ?_) (ar 26 9 [2, 6]) rfl rfl (any_of HT_.out (by kernel_rfl)) (fun _ _ _ h => h) (Or.inl ⟨by rfl, ?_⟩) ?_ ?_
             rotate_left
             · intro w'
               go_simp
               with_reducible rfl
             rotate_left
             · simp only [Act.put, List.setIfInBounds_toArray, List.set_cons_zero, List.set_cons_succ, i64_w, i32_w]
               rfl
             refine pure_ (i := 9) (N := some 87) (v := ?_) (a' := ?_) (ar 26 10 [2, 6]) rfl rfl (any_of HT_.out (by kernel_rfl)) (fun _ _ _ h => h) (Or.inl ⟨by rfl, ?_⟩) ?_ ?_
             rotate_left
             · intro w'
               go_simp
               with_reducible rfl
             rotate_left
             · simp only [Act.put, List.setIfInBounds_toArray, List.set_cons_zero, List.set_cons_succ, i64_w, i32_w]
               rfl
             refine pure_ (i := 12) (N := some 90) (v := ?_) (a' := ?_) (ar 26 13 [2, 6, 10, 11]) rfl rfl (any_of HT_.out (by kernel_rfl)) (fun _ _ _ h => h) (Or.inl ⟨by rfl, ?_⟩) ?_ ?_
             rotate_left
             · intro w'
               go_simp
               with_reducible rfl
             rotate_left
             · simp only [Act.put, List.setIfInBounds_toArray, List.set_cons_zero, List.set_cons_succ, i64_w, i32_w]
               rfl
             refine pure_ (i := 13) (N := some 91) (v := ?_) (a' := ?_) (ar 26 14 [2, 6, 10, 11]) rfl rfl (any_of HT_.out (by kernel_rfl)) (fun _ _ _ h => h) (Or.inl ⟨by rfl, ?_⟩) ?_ ?_
             rotate_left
             · intro w'
               go_simp
               with_reducible rfl
             rotate_left
             · simp only [Act.put, List.setIfInBounds_toArray, List.set_cons_zero, List.set_cons_succ, i64_w, i32_w]
               rfl
             refine pure_ (i := 14) (N := some 92) (v := ?_) (a' := ?_) (ar 26 15 [2, 6, 10, 11]) rfl rfl (any_of HT_.out (by kernel_rfl)) (fun _ _ _ h => h) (Or.inl ⟨by rfl, ?_⟩) ?_ ?_
             rotate_left
             · intro w'
               go_simp
               with_reducible rfl
             rotate_left
             · simp only [Act.put, List.setIfInBounds_toArray, List.set_cons_zero, List.set_cons_succ, i64_w, i32_w]
               rfl
             refine take_ (i := 2) (N := some 80) (v := ?_) (a' := ?_) (ar 26 15 [6, 10, 11]) rfl rfl (take_ofW HT_.out HW_.out (by kernel_rfl)) (fun _ _ _ h => h) (Or.inl ⟨by rfl, ?_⟩) hHeld ?_ ?_
             rotate_left
             · rintro w' ⟨s0, s1, s2, s3, s4, s5⟩
               go_simp
               with_reducible rfl
             rotate_left
             · simp only [Act.put, List.setIfInBounds_toArray, List.set_cons_zero, List.set_cons_succ, i64_w, i32_w]
               rfl
             refine take_ (i := 6) (N := some 84) (v := ?_) (a' := ?_) (ar 26 15 [10, 11]) rfl rfl (take_ofW HT_.out HW_.out (by kernel_rfl)) (fun _ _ _ h => h) (Or.inl ⟨by rfl, ?_⟩) hHeld ?_ ?_
             rotate_left
             · rintro w' ⟨s0, s1, s2, s3, s4, s5⟩
               go_simp
               with_reducible rfl
             rotate_left
             · simp only [Act.put, List.setIfInBounds_toArray, List.set_cons_zero, List.set_cons_succ, i64_w, i32_w]
               rfl
             refine take_ (i := 10) (N := some 88) (v := ?_) (a' := ?_) (ar 26 15 [11]) rfl rfl (take_ofW HT_.out HW_.out (by kernel_rfl)) (fun _ _ _ h => h) (Or.inl ⟨by rfl, ?_⟩) hHeld ?_ ?_
             rotate_left
             · rintro w' ⟨s0, s1, s2, s3, s4, s5⟩
               go_simp
               with_reducible rfl
             rotate_left
             · simp only [Act.put, List.setIfInBounds_toArray, List.set_cons_zero, List.set_cons_succ, i64_w, i32_w]
               rfl
             refine take_ (i := 15) (N := some 93) (v := ?_) (a' := ?_) (ar 26 16 [11]) rfl rfl (take_ofW HT_.out HW_.out (by kernel_rfl)) (fun _ _ _ h => h) (Or.inl ⟨by rfl, ?_⟩) hHeld ?_ ?_
             rotate_left
             · rintro w' ⟨s0, s1, s2, s3, s4, s5⟩
               go_simp
               with_reducible rfl
             rotate_left
             · simp only [Act.put, List.setIfInBounds_toArray, List.set_cons_zero, List.set_cons_succ, i64_w, i32_w]
               rfl
             refine one_ (i := 11) (N := some 89) (ar 26 16 []) rfl rfl (one_of HT_.out (by kernel_rfl)) (by decide) (fun K hK => ?_)
             refine goes_ Try.func23 (by kernel_rfl) rfl #[.agg #[.int .i64 t448, .int .i64 t449, .slice Ao11 t450.length co11], .int .i64 (rd t457 x12_4), .int .i64 (rd t464 x10_2)] (by rfl) rfl rfl (by (try simp only [List.map_toArray, List.map_cons, List.map_nil]); first | done | rfl | (simp only [List.length_drop, List.length_take]; rfl)) ?_
             with_reducible refine (impl_Apart.calls k4 t448 t449 _ _ t450 (rd t457 x12_4) (rd t464 x10_2) t474 _ ?side1 ?side2 A41.out).mono ?_
             (case side1 => exact Kd.C_up ((Kd.Q_reads' HO_464002.out).2.2))
             (case side2 => exact (Kd.Q_reads' HO_464002.out).2.1)
             rintro e w49 ⟨rfl, hb⟩
             have HS3_ := (hb.cell (World.block_lt_of_cell? _ _ (hHeld.2.2.2.1))).trans (hHeld.2.2.2.1)
             have HS4_ := (hb.cell (World.block_lt_of_cell? _ _ (hHeld.2.2.2.2.1))).trans (hHeld.2.2.2.2.1)
             have HS5_ := (hb.cell (World.block_lt_of_cell? _ _ (hHeld.2.2.2.2.2))).trans (hHeld.2.2.2.2.2)
             refine ⟨_, rfl, ?_⟩
             have n0_ := Aside0.mk (Kd.R_below (Kd.R_up HO_6.out) hb)
             have n1_ := Aside0.mk (Kd.R_below (Kd.R_up HO_7.out) hb)
             have n2_ := Aside0.mk (Kd.R_below (Kd.R_up HO_8.out) hb)
             have n3_ := Aside0.mk (Kd.R_below (Kd.R_up HO_9.out) hb)
             have n4_ := Aside0.mk (Kd.Q_below (Kd.Q_up HO_464002.out) hb)
             have n5_ := Aside0.mk (blk_below (g := gb463) (o := .cells #[.int .i64 t448, .int .i64 t449, .slice Ao11 t450.length co11] 27 (0, 0)) (blk_up BK463.out) hb)
             have n6_ := Aside0.mk (below_step (by repeat (first | (with_reducible first | exact HB.out | apply below_alloc | apply pw_below_drewN | apply below_drew1 | refine below_set ?_ GE463.out) | exact HB.out)) hb)
             clear HO_6
             clear HO_7
             clear HO_8
             clear HO_9
             clear HO_464002
             clear BK463
             clear HB
             have HO_6 := n0_
             have HO_7 := n1_
             have HO_8 := n2_
             have HO_9 := n3_
             have HO_464002 := n4_
             have BK463 := n5_
             have HB := n6_
             clear n0_ n1_ n2_ n3_ n4_ n5_ n6_
             (try clear hb)
             (try clear hb2)
             (try clear hk)
             (try clear hi)
             refine hK.out _ _ ⟨(blk_cell BK463.out 0).trans rfl, (blk_cell BK463.out 1).trans rfl, (blk_cell BK463.out 2).trans rfl, HS3_, HS4_, HS5_⟩ (fun hHeld => ?_)
             clear hK K
             refine norm_ (a' := ?_) ?_ ?_
             rotate_left
             · show Act.put _ (some 89) _ = _
               simp only [Act.put, List.setIfInBounds_toArray, List.set_cons_zero, List.set_cons_succ, i64_w, i32_w]
               rfl
             refine pure_ (i := 16) (N := some 94) (v := ?_) (a' := ?_) (ar 26 17 []) rfl rfl (any_of HT_.out (by kernel_rfl)) (fun _ _ _ h => h) (Or.inl ⟨by rfl, ?_⟩) ?_ ?_
             rotate_left
             · intro w'
               go_simp
               with_reducible rfl
             rotate_left
             · simp only [Act.put, List.setIfInBounds_toArray, List.set_cons_zero, List.set_cons_succ, i64_w, i32_w]
               rfl
             refine pure_ (i := 17) (N := some 95) (v := ?_) (a' := ?_) (ar 26 18 []) rfl rfl (any_of HT_.out (by kernel_rfl)) (fun _ _ _ h => h) (Or.inl ⟨by rfl, ?_⟩) ?_ ?_
             rotate_left
             · intro w'
               go_simp
               with_reducible rfl
             rotate_left
             · simp only [Act.put, List.setIfInBounds_toArray, List.set_cons_zero, List.set_cons_succ, i64_w, i32_w]
               rfl
             refine pure_ (i := 18) (N := some 96) (v := ?_) (a' := ?_) (ar 26 19 []) rfl rfl (any_of HT_.out (by kernel_rfl)) (fun _ _ _ h => h) (Or.inl ⟨by rfl, ?_⟩) ?_ ?_
             rotate_left
             · intro w'
               go_simp
               with_reducible rfl
             rotate_left
             · simp only [Act.put, List.setIfInBounds_toArray, List.set_cons_zero, List.set_cons_succ, i64_w, i32_w]
               rfl
             refine pure_ (i := 19) (N := some 97) (v := undef) (a' := ?_) (ar 26 20 []) rfl rfl (any_of HT_.out (by kernel_rfl)) (fun _ _ _ h => h) (Or.inr ⟨by rfl, rfl⟩) ?_ ?_
             rotate_left
             · simp only [Act.put, List.setIfInBounds_toArray, List.set_cons_zero, List.set_cons_succ, i64_w, i32_w]
               rfl
             refine pure_ (i := 20) (N := some 98) (v := undef) (a' := ?_) (ar 26 21 []) rfl rfl (any_of HT_.out (by kernel_rfl)) (fun _ _ _ h => h) (Or.inr ⟨by rfl, rfl⟩) ?_ ?_
             rotate_left
             · simp only [Act.put, List.setIfInBounds_toArray, List.set_cons_zero, List.set_cons_succ, i64_w, i32_w]
               rfl
             refine pure_ (i := 21) (N := some 99) (v := undef) (a' := ?_) (ar 26 22 []) rfl rfl (any_of HT_.out (by kernel_rfl)) (fun _ _ _ h => h) (Or.inr ⟨by rfl, rfl⟩) ?_ ?_
             rotate_left
             · simp only [Act.put, List.setIfInBounds_toArray, List.set_cons_zero, List.set_cons_succ, i64_w, i32_w]
               rfl
             refine pure_ (i := 22) (N := some 100) (v := undef) (a' := ?_) (ar 26 23 []) rfl rfl (any_of HT_.out (by kernel_rfl)) (fun _ _ _ h => h) (Or.inr ⟨by rfl, rfl⟩) ?_ ?_
             rotate_left
             · simp only [Act.put, List.setIfInBounds_toArray, List.set_cons_zero, List.set_cons_succ, i64_w, i32_w]
               rfl
             refine pure_ (i := 23) (N := some 101) (v := undef) (a' := ?_) (ar 26 24 []) rfl rfl (any_of HT_.out (by kernel_rfl)) (fun _ _ _ h => h) (Or.inr ⟨by rfl, rfl⟩) ?_ ?_
             rotate_left
             · simp only [Act.put, List.setIfInBounds_toArray, List.set_cons_zero, List.set_cons_succ, i64_w, i32_w]
               rfl
             refine pure_ (i := 24) (N := some 102) (v := ?_) (a' := ?_) (ar 26 25 []) rfl rfl (any_of HT_.out (by kernel_rfl)) (fun _ _ _ h => h) (Or.inl ⟨by rfl, ?_⟩) ?_ ?_
             rotate_left
             · intro w'
               go_simp
               with_reducible rfl
             rotate_left
             · simp only [Act.put, List.setIfInBounds_toArray, List.set_cons_zero, List.set_cons_succ, i64_w, i32_w]
               rfl
             refine pure_ (i := 25) (N := some 11) (v := ?_) (a' := ?_) (ar 26 26 []) rfl rfl (any_of HT_.out (by kernel_rfl)) (fun _ _ _ h => h) (Or.inl ⟨by rfl, ?_⟩) ?_ ?_
             rotate_left
             · intro w'
               go_simp
               with_reducible rfl
             rotate_left
             · simp only [Act.put, List.setIfInBounds_toArray, List.set_cons_zero, List.set_cons_succ, i64_w, i32_w]
               rfl
             refine done_ (done_of HT_.out (by kernel_rfl)) ?_
             try go_wp2
             go_roundg k4
             case measure => have := HJ6.out; have := HK2.out; have := HJ30.out; have := HK4.out; omega
             case rel => exact ⟨(false), (wrap64 (x12_4 + 1)), (by first | rfl | (simp; done) | (simp [*]; done)), (by first | rfl | (simp; done) | (simp [*]; done)), H', ⟨by have := HJ6.out; have := HK2.out; have := HJ30.out; have := HK4.out; omega⟩, ⟨by (with_reducible repeat (first | apply Kd.R_alloc | apply Kd.R_drewN | apply Kd.R_drew)); exact HO_6.out⟩, ⟨by (with_reducible repeat (first | apply Kd.R_alloc | apply Kd.R_drewN | apply Kd.R_drew)); exact HO_7.out⟩, ⟨by (with_reducible repeat (first | apply Kd.R_alloc | apply Kd.R_drewN | apply Kd.R_drew)); exact HO_8.out⟩, ⟨by (with_reducible repeat (first | apply Kd.R_alloc | apply Kd.R_drewN | apply Kd.R_drew)); exact HO_9.out⟩, ⟨by (with_reducible repeat (first | apply Kd.Q_alloc | apply Kd.Q_drewN | apply Kd.Q_drew)); exact HO_464002.out⟩, ⟨by (with_reducible repeat (first | refine blk_drewN ?_ _ | refine blk_drew ?_ | refine blk_alloc ?_ _)); exact BK463.out⟩, ⟨by repeat (first | (with_reducible first | exact HB.out | apply below_alloc | apply pw_below_drewN | apply below_drew1 | refine below_set ?_ GE463.out) | exact HB.out)⟩⟩
           rw [if_pos c43] at H
           have c43b0 : (t474 == (rd t460 x12_4)) = true := beq_iff_eq.mpr c43
           have c43b1 : (t474 != (rd t460 x12_4)) = false := bne_eq_false_iff_eq.mpr c43
           clear c43
           have H' := Aside0.mk H
           clear H
           try go_wp2
           have n0_ := Aside0.mk (Kd.R_drew HO_6.out)
           have n1_ := Aside0.mk (Kd.R_drew HO_7.out)
           have n2_ := Aside0.mk (Kd.R_drew HO_8.out)
           have n3_ := Aside0.mk (Kd.R_drew HO_9.out)
           have n4_ := Aside0.mk (Kd.Q_drew HO_464002.out)
           have n5_ := Aside0.mk (blk_drew BK463.out)
           have n6_ := Aside0.mk (below_drew1 HB.out)
           clear HO_6
           clear HO_7
           clear HO_8
           clear HO_9
           clear HO_464002
           clear BK463
           clear HB
           have HO_6 := n0_
           have HO_7 := n1_
           have HO_8 := n2_
           have HO_9 := n3_
           have HO_464002 := n4_
           have BK463 := n5_
           have HB := n6_
           clear n0_ n1_ n2_ n3_ n4_ n5_ n6_
           have p472 : 0 ≤ (x12_4 : Int) := of_decide_eq_true (by first | (with_reducible assumption) | assumption)
           have q472 : x12_4 < (t457.length : Int) := of_decide_eq_true (by first | (with_reducible assumption) | assumption)
           obtain ⟨ad472, e472, hx472_0⟩ := Kd.at_int (Kd.R_reads' HO_6.out).2.2 x12_4 p472 q472
           cases e472
           replace p472 := eq_true p472
           replace q472 := eq_true q472
           obtain ⟨Ao45, co45, eo45⟩ := Kd.R_slice HO_8.out
           (first | subst eo45 | (injection eo45 with f1_ f2_ f3_; have f4_ := f1_.symm; have f5_ := f3_.symm; clear f1_ f2_ f3_; subst f4_; subst f5_))
           have p473 : 0 ≤ (x10_2 : Int) := of_decide_eq_true (by first | (with_reducible assumption) | assumption)
           have q473 : x10_2 < (t464.length : Int) := of_decide_eq_true (by first | (with_reducible assumption) | assumption)
           obtain ⟨ad473, e473, hx473_0⟩ := Kd.at_int (Kd.R_reads' HO_8.out).2.2 x10_2 p473 q473
           cases e473
           replace p473 := eq_true p473
           replace q473 := eq_true q473
           have p475 : 0 ≤ (x12_4 : Int) := of_decide_eq_true (by first | (with_reducible assumption) | assumption)
           have q475 : x12_4 < (t460.length : Int) := of_decide_eq_true (by first | (with_reducible assumption) | assumption)
           obtain ⟨ad475, e475, hx475_0⟩ := Kd.at_int (Kd.R_reads' HO_7.out).2.2 x12_4 p475 q475
           cases e475
           replace p475 := eq_true p475
           replace q475 := eq_true q475
           have p476 : 0 ≤ (x12_4 : Int) := of_decide_eq_true (by first | (with_reducible assumption) | assumption)
           have q476 : x12_4 < (t460.length : Int) := of_decide_eq_true (by first | (with_reducible assumption) | assumption)
           obtain ⟨ad476, e476, hx476_0⟩ := Kd.at_int (Kd.R_reads' HO_7.out).2.2 x12_4 p476 q476
           obtain rfl : ad475 = ad476 := (by injection e476)
           replace p476 := eq_true p476
           replace q476 := eq_true q476
           refine start_ (n := 26) (S := fun w' => w'.cell? ⟨gb463, 0, none⟩ = some (.int .i64 t448) ∧ w'.cell? ⟨gb463, 1, none⟩ = some (.int .i64 t449) ∧ w'.cell? ⟨gb463, 2, none⟩ = some (.slice Ao11 t450.length co11) ∧ w'.cell? (ad472.add (x12_4).toNat) = some (.int .i64 (rd t457 x12_4)) ∧ w'.cell? (ad473.add (x10_2).toNat) = some (.int .i64 (rd t464 x10_2)) ∧ w'.cell? (ad475.add (x12_4).toNat) = some (.int .i64 (rd t460 x12_4)) ∧ w'.cell? (ad475.add (x12_4).toNat) = some (.int .i64 (rd t460 x12_4))) (ds := []) (ar 26 0 []) (by kernel_rfl) rfl rfl ⟨(blk_cell BK463.out 0).trans rfl, (blk_cell BK463.out 1).trans rfl, (blk_cell BK463.out 2).trans rfl, hx472_0, hx473_0, hx475_0, hx476_0⟩ (fun hHeld => ?_); refine with_tabW laws_FnPlaces.tab15 laws_FnPlaces.bits15 (fun HT_ HW_ => ?_)
           generalize wr.drew = w44 at HO_6 HO_7 HO_8 HO_9 HO_464002 BK463 HB hx472_0 hx473_0 hx475_0 hx476_0 hHeld ⊢
           refine pure_ (i := 0) (N := some 78) (v := ?_) (a' := ?_) (ar 26 1 []) rfl rfl (any_of HT_.out (by kernel_rfl)) (fun _ _ _ h => h) (Or.inl ⟨by rfl, ?_⟩) ?_ ?_
           rotate_left
           · intro w'
             go_simp
             with_reducible rfl
           rotate_left
           · simp only [Act.put, List.setIfInBounds_toArray, List.set_cons_zero, List.set_cons_succ, i64_w, i32_w]
             rfl
           refine pure_ (i := 1) (N := some 79) (v := ?_) (a' := ?_) (ar 26 2 []) rfl rfl (any_of HT_.out (by kernel_rfl)) (fun _ _ _ h => h) (Or.inl ⟨by rfl, ?_⟩) ?_ ?_
           rotate_left
           · intro w'
             go_simp
             with_reducible rfl
           rotate_left
           · simp only [Act.put, List.setIfInBounds_toArray, List.set_cons_zero, List.set_cons_succ, i64_w, i32_w]
             rfl
           refine pure_ (i := 3) (N := some 81) (v := ?_) (a' := ?_) (ar 26 4 [2]) rfl rfl (any_of HT_.out (by kernel_rfl)) (fun _ _ _ h => h) (Or.inl ⟨by rfl, ?_⟩) ?_ ?_
           rotate_left
           · intro w'
             go_simp
             with_reducible rfl
           rotate_left
           · simp only [Act.put, List.setIfInBounds_toArray, List.set_cons_zero, List.set_cons_succ, i64_w, i32_w]
             rfl
           refine pure_ (i := 4) (N := some 82) (v := ?_) (a' := ?_) (ar 26 5 [2]) rfl rfl (any_of HT_.out (by kernel_rfl)) (fun _ _ _ h => h) (Or.inl ⟨by rfl, ?_⟩) ?_ ?_
           rotate_left
           · intro w'
             go_simp
             with_reducible rfl
           rotate_left
           · simp only [Act.put, List.setIfInBounds_toArray, List.set_cons_zero, List.set_cons_succ, i64_w, i32_w]
             rfl
           refine pure_ (i := 5) (N := some 83) (v := ?_) (a' := ?_) (ar 26 6 [2]) rfl rfl (any_of HT_.out (by kernel_rfl)) (fun _ _ _ h => h) (Or.inl ⟨by rfl, ?_⟩) ?_ ?_
           rotate_left
           · intro w'
             go_simp
             with_reducible rfl
           rotate_left
           · simp only [Act.put, List.setIfInBounds_toArray, List.set_cons_zero, List.set_cons_succ, i64_w, i32_w]
             rfl
           refine pure_ (i := 7) (N := some 85) (v := ?_) (a' := ?_) (ar 26 8 [2, 6]) rfl rfl (any_of HT_.out (by kernel_rfl)) (fun _ _ _ h => h) (Or.inl ⟨by rfl, ?_⟩) ?_ ?_
           rotate_left
           · intro w'
             go_simp
             with_reducible rfl
           rotate_left
           · simp only [Act.put, List.setIfInBounds_toArray, List.set_cons_zero, List.set_cons_succ, i64_w, i32_w]
             rfl
           refine pure_ (i := 8) (N := some 86) (v := ?_) (a' := ?_) (ar 26 9 [2, 6]) rfl rfl (any_of HT_.out (by kernel_rfl)) (fun _ _ _ h => h) (Or.inl ⟨by rfl, ?_⟩) ?_ ?_
           rotate_left
           · intro w'
             go_simp
             with_reducible rfl
           rotate_left
           · simp only [Act.put, List.setIfInBounds_toArray, List.set_cons_zero, List.set_cons_succ, i64_w, i32_w]
             rfl
           refine pure_ (i := 9) (N := some 87) (v := ?_) (a' := ?_) (ar 26 10 [2, 6]) rfl rfl (any_of HT_.out (by kernel_rfl)) (fun _ _ _ h => h) (Or.inl ⟨by rfl, ?_⟩) ?_ ?_
           rotate_left
           · intro w'
             go_simp
             with_reducible rfl
           rotate_left
           · simp only [Act.put, List.setIfInBounds_toArray, List.set_cons_zero, List.set_cons_succ, i64_w, i32_w]
             rfl
           refine pure_ (i := 12) (N := some 90) (v := ?_) (a' := ?_) (ar 26 13 [2, 6, 10, 11]) rfl rfl (any_of HT_.out (by kernel_rfl)) (fun _ _ _ h => h) (Or.inl ⟨by rfl, ?_⟩) ?_ ?_
           rotate_left
           · intro w'
             go_simp
             with_reducible rfl
           rotate_left
           · simp only [Act.put, List.setIfInBounds_toArray, List.set_cons_zero, List.set_cons_succ, i64_w, i32_w]
             rfl
           refine pure_ (i := 13) (N := some 91) (v := ?_) (a' := ?_) (ar 26 14 [2, 6, 10, 11]) rfl rfl (any_of HT_.out (by kernel_rfl)) (fun _ _ _ h => h) (Or.inl ⟨by rfl, ?_⟩) ?_ ?_
           rotate_left
           · intro w'
             go_simp
             with_reducible rfl
           rotate_left
           · simp only [Act.put, List.setIfInBounds_toArray, List.set_cons_zero, List.set_cons_succ, i64_w, i32_w]
             rfl
           refine pure_ (i := 14) (N := some 92) (v := ?_) (a' := ?_) (ar 26 15 [2, 6, 10, 11]) rfl rfl (any_of HT_.out (by kernel_rfl)) (fun _ _ _ h => h) (Or.inl ⟨by rfl, ?_⟩) ?_ ?_
           rotate_left
           · intro w'
             go_simp
             with_reducible rfl
           rotate_left
           · simp only [Act.put, List.setIfInBounds_toArray, List.set_cons_zero, List.set_cons_succ, i64_w, i32_w]
             rfl
           refine take_ (i := 2) (N := some 80) (v := ?_) (a' := ?_) (ar 26 15 [6, 10, 11]) rfl rfl (take_ofW HT_.out HW_.out (by kernel_rfl)) (fun _ _ _ h => h) (Or.inl ⟨by rfl, ?_⟩) hHeld ?_ ?_
           rotate_left
           · rintro w' ⟨s0, s1, s2, s3, s4, s5, s6⟩
             go_simp
             with_reducible rfl
           rotate_left
           · simp only [Act.put, List.setIfInBounds_toArray, List.set_cons_zero, List.set_cons_succ, i64_w, i32_w]
             rfl
           refine take_ (i := 6) (N := some 84) (v := ?_) (a' := ?_) (ar 26 15 [10, 11]) rfl rfl (take_ofW HT_.out HW_.out (by kernel_rfl)) (fun _ _ _ h => h) (Or.inl ⟨by rfl, ?_⟩) hHeld ?_ ?_
           rotate_left
           · rintro w' ⟨s0, s1, s2, s3, s4, s5, s6⟩
             go_simp
             with_reducible rfl
           rotate_left
           · simp only [Act.put, List.setIfInBounds_toArray, List.set_cons_zero, List.set_cons_succ, i64_w, i32_w]
             rfl
           refine take_ (i := 10) (N := some 88) (v := ?_) (a' := ?_) (ar 26 15 [11]) rfl rfl (take_ofW HT_.out HW_.out (by kernel_rfl)) (fun _ _ _ h => h) (Or.inl ⟨by rfl, ?_⟩) hHeld ?_ ?_
           rotate_left
           · rintro w' ⟨s0, s1, s2, s3, s4, s5, s6⟩
             go_simp
             with_reducible rfl
           rotate_left
           · simp only [Act.put, List.setIfInBounds_toArray, List.set_cons_zero, List.set_cons_succ, i64_w, i32_w]
             rfl
           refine take_ (i := 15) (N := some 93) (v := ?_) (a' := ?_) (ar 26 16 [11]) rfl rfl (take_ofW HT_.out HW_.out (by kernel_rfl)) (fun _ _ _ h => h) (Or.inl ⟨by rfl, ?_⟩) hHeld ?_ ?_
           rotate_left
           · rintro w' ⟨s0, s1, s2, s3, s4, s5, s6⟩
             go_simp
             with_reducible rfl
           rotate_left
           · simp only [Act.put, List.setIfInBounds_toArray, List.set_cons_zero, List.set_cons_succ, i64_w, i32_w]
             rfl
           refine one_ (i := 11) (N := some 89) (ar 26 16 []) rfl rfl (one_of HT_.out (by kernel_rfl)) (by decide) (fun K hK => ?_)
           refine goes_ Try.func23 (by kernel_rfl) rfl #[.agg #[.int .i64 t448, .int .i64 t449, .slice Ao11 t450.length co11], .int .i64 (rd t457 x12_4), .int .i64 (rd t464 x10_2)] (by rfl) rfl rfl (by (try simp only [List.map_toArray, List.map_cons, List.map_nil]); first | done | rfl | (simp only [List.length_drop, List.length_take]; rfl)) ?_
           with_reducible refine (impl_Apart.calls k4 t448 t449 _ _ t450 (rd t457 x12_4) (rd t464 x10_2) t474 _ ?side1 ?side2 A41.out).mono ?_
           (case side1 => exact Kd.C_up ((Kd.Q_reads' HO_464002.out).2.2))
           (case side2 => exact (Kd.Q_reads' HO_464002.out).2.1)
           rintro e w46 ⟨rfl, hb⟩
           have HS3_ := (hb.cell (World.block_lt_of_cell? _ _ (hHeld.2.2.2.1))).trans (hHeld.2.2.2.1)
           have HS4_ := (hb.cell (World.block_lt_of_cell? _ _ (hHeld.2.2.2.2.1))).trans (hHeld.2.2.2.2.1)
           have HS5_ := (hb.cell (World.block_lt_of_cell? _ _ (hHeld.2.2.2.2.2.1))).trans (hHeld.2.2.2.2.2.1)
           have HS6_ := (hb.cell (World.block_lt_of_cell? _ _ (hHeld.2.2.2.2.2.2))).trans (hHeld.2.2.2.2.2.2)
           refine ⟨_, rfl, ?_⟩
           have n0_ := Aside0.mk (Kd.R_below (Kd.R_up HO_6.out) hb)
           have n1_ := Aside0.mk (Kd.R_below (Kd.R_up HO_7.out) hb)
           have n2_ := Aside0.mk (Kd.R_below (Kd.R_up HO_8.out) hb)
           have n3_ := Aside0.mk (Kd.R_below (Kd.R_up HO_9.out) hb)
           have n4_ := Aside0.mk (Kd.Q_below (Kd.Q_up HO_464002.out) hb)
           have n5_ := Aside0.mk (blk_below (g := gb463) (o := .cells #[.int .i64 t448, .int .i64 t449, .slice Ao11 t450.length co11] 27 (0, 0)) (blk_up BK463.out) hb)
           have n6_ := Aside0.mk (below_step (by repeat (first | (with_reducible first | exact HB.out | apply below_alloc | apply pw_below_drewN | apply below_drew1 | refine below_set ?_ GE463.out) | exact HB.out)) hb)
           clear HO_6
           clear HO_7
           clear HO_8
           clear HO_9
           clear HO_464002
           clear BK463
           clear HB
           have HO_6 := n0_
           have HO_7 := n1_
           have HO_8 := n2_
           have HO_9 := n3_
           have HO_464002 := n4_
           have BK463 := n5_
           have HB := n6_
           clear n0_ n1_ n2_ n3_ n4_ n5_ n6_
           (try clear hb)
           (try clear hb2)
           (try clear hk)
           (try clear hi)
           refine hK.out _ _ ⟨(blk_cell BK463.out 0).trans rfl, (blk_cell BK463.out 1).trans rfl, (blk_cell BK463.out 2).trans rfl, HS3_, HS4_, HS5_, HS6_⟩ (fun hHeld => ?_)
           clear hK K
           refine norm_ (a' := ?_) ?_ ?_
           rotate_left
           · show Act.put _ (some 89) _ = _
             simp only [Act.put, List.setIfInBounds_toArray, List.set_cons_zero, List.set_cons_succ, i64_w, i32_w]
             rfl
           refine pure_ (i := 16) (N := some 94) (v := ?_) (a' := ?_) (ar 26 17 []) rfl rfl (any_of HT_.out (by kernel_rfl)) (fun _ _ _ h => h) (Or.inl ⟨by rfl, ?_⟩) ?_ ?_
           rotate_left
           · intro w'
             go_simp
             with_reducible rfl
           rotate_left
           · simp only [Act.put, List.setIfInBounds_toArray, List.set_cons_zero, List.set_cons_succ, i64_w, i32_w]
             rfl
           refine pure_ (i := 17) (N := some 95) (v := ?_) (a' := ?_) (ar 26 18 []) rfl rfl (any_of HT_.out (by kernel_rfl)) (fun _ _ _ h => h) (Or.inl ⟨by rfl, ?_⟩) ?_ ?_
           rotate_left
           · intro w'
             go_simp
             with_reducible rfl
           rotate_left
           · simp only [Act.put, List.setIfInBounds_toArray, List.set_cons_zero, List.set_cons_succ, i64_w, i32_w]
             rfl
           refine pure_ (i := 18) (N := some 96) (v := ?_) (a' := ?_) (ar 26 19 []) rfl rfl (any_of HT_.out (by kernel_rfl)) (fun _ _ _ h => h) (Or.inl ⟨by rfl, ?_⟩) ?_ ?_
           rotate_left
           · intro w'
             go_simp
             with_reducible rfl
           rotate_left
           · simp only [Act.put, List.setIfInBounds_toArray, List.set_cons_zero, List.set_cons_succ, i64_w, i32_w]
             rfl
           refine pure_ (i := 19) (N := some 97) (v := ?_) (a' := ?_) (ar 26 20 []) rfl rfl (any_of HT_.out (by kernel_rfl)) (fun _ _ _ h => h) (Or.inl ⟨by rfl, ?_⟩) ?_ ?_
           rotate_left
           · intro w'
             go_simp
             with_reducible rfl
           rotate_left
           · simp only [Act.put, List.setIfInBounds_toArray, List.set_cons_zero, List.set_cons_succ, i64_w, i32_w]
             rfl
           refine pure_ (i := 20) (N := some 98) (v := ?_) (a' := ?_) (ar 26 21 []) rfl rfl (any_of HT_.out (by kernel_rfl)) (fun _ _ _ h => h) (Or.inl ⟨by rfl, ?_⟩) ?_ ?_
           rotate_left
           · intro w'
             go_simp
             with_reducible rfl
           rotate_left
           · simp only [Act.put, List.setIfInBounds_toArray, List.set_cons_zero, List.set_cons_succ, i64_w, i32_w]
             rfl
           refine pure_ (i := 21) (N := some 99) (v := ?_) (a' := ?_) (ar 26 22 []) rfl rfl (any_of HT_.out (by kernel_rfl)) (fun _ _ _ h => h) (Or.inl ⟨by rfl, ?_⟩) ?_ ?_
           rotate_left
           · intro w'
             go_simp
             with_reducible rfl
           rotate_left
           · simp only [Act.put, List.setIfInBounds_toArray, List.set_cons_zero, List.set_cons_succ, i64_w, i32_w]
             rfl
           refine take_ (i := 22) (N := some 100) (v := ?_) (a' := ?_) (ar 26 23 []) rfl rfl (take_ofW HT_.out HW_.out (by kernel_rfl)) (fun _ _ _ h => h) (Or.inl ⟨by rfl, ?_⟩) hHeld ?_ ?_
           rotate_left
           · rintro w' ⟨s0, s1, s2, s3, s4, s5, s6⟩
             go_simp
             with_reducible rfl
           rotate_left
           · simp only [Act.put, List.setIfInBounds_toArray, List.set_cons_zero, List.set_cons_succ, i64_w, i32_w]
             rfl
           refine pure_ (i := 23) (N := some 101) (v := ?_) (a' := ?_) (ar 26 24 []) rfl rfl (any_of HT_.out (by kernel_rfl)) (fun _ _ _ h => h) (Or.inl ⟨by rfl, ?_⟩) ?_ ?_
           rotate_left
           · intro w'
             go_simp
             with_reducible rfl
           rotate_left
           · simp only [Act.put, List.setIfInBounds_toArray, List.set_cons_zero, List.set_cons_succ, i64_w, i32_w]
             rfl
           refine pure_ (i := 24) (N := some 102) (v := ?_) (a' := ?_) (ar 26 25 []) rfl rfl (any_of HT_.out (by kernel_rfl)) (fun _ _ _ h => h) (Or.inl ⟨by rfl, ?_⟩) ?_ ?_
           rotate_left
           · intro w'
             go_simp
             with_reducible rfl
           rotate_left
           · simp only [Act.put, List.setIfInBounds_toArray, List.set_cons_zero, List.set_cons_succ, i64_w, i32_w]
             rfl
           refine pure_ (i := 25) (N := some 11) (v := ?_) (a' := ?_) (ar 26 26 []) rfl rfl (any_of HT_.out (by kernel_rfl)) (fun _ _ _ h => h) (Or.inl ⟨by rfl, ?_⟩) ?_ ?_
           rotate_left
           · intro w'
             go_simp
             with_reducible rfl
           rotate_left
           · simp only [Act.put, List.setIfInBounds_toArray, List.set_cons_zero, List.set_cons_succ, i64_w, i32_w]
             rfl
           refine done_ (done_of HT_.out (by kernel_rfl)) ?_
           try go_wp2
           go_roundg k4
           case measure => have := HJ6.out; have := HK2.out; have := HJ30.out; have := HK4.out; omega
           case rel => exact ⟨(decide ((rd t460 x12_4) ≥ 0)), (wrap64 (x12_4 + 1)), (by first | rfl | (simp; done) | (simp [*]; done)), (by first | rfl | (simp; done) | (simp [*]; done)), H', ⟨by have := HJ6.out; have := HK2.out; have := HJ30.out; have := HK4.out; omega⟩, ⟨by (with_reducible repeat (first | apply Kd.R_alloc | apply Kd.R_drewN | apply Kd.R_drew)); exact HO_6.out⟩, ⟨by (with_reducible repeat (first | apply Kd.R_alloc | apply Kd.R_drewN | apply Kd.R_drew)); exact HO_7.out⟩, ⟨by (with_reducible repeat (first | apply Kd.R_alloc | apply Kd.R_drewN | apply Kd.R_drew)); exact HO_8.out⟩, ⟨by (with_reducible repeat (first | apply Kd.R_alloc | apply Kd.R_drewN | apply Kd.R_drew)); exact HO_9.out⟩, ⟨by (with_reducible repeat (first | apply Kd.Q_alloc | apply Kd.Q_drewN | apply Kd.Q_drew)); exact HO_464002.out⟩, ⟨by (with_reducible repeat (first | refine blk_drewN ?_ _ | refine blk_drew ?_ | refine blk_alloc ?_ _)); exact BK463.out⟩, ⟨by repeat (first | (with_reducible first | exact HB.out | apply below_alloc | apply pw_below_drewN | apply below_drew1 | refine below_set ?_ GE463.out) | exact HB.out)⟩⟩
       replace c35 := Bool.eq_false_iff.mpr c35
       subst c35
       rw [if_neg (show ¬ (false = true) by decide)] at H
       replace H := Option.bind_eq_some_iff.mp H
       obtain ⟨⟨t479, t480, t481, t484, t487⟩, A590, H⟩ := H
       dsimp only at H
       have A59 := Aside0.mk A590
       clear A590
       replace H := Option.bind_eq_some_iff.mp H
       obtain ⟨t489, A600, H⟩ := H
       have A60 := Aside0.mk A600
       clear A600
       have H' := Aside0.mk H
       clear H
       go_wp2_with (first | ((with_reducible refine gate_callee (f := 25) rfl ?_); refine goesL_ (some 113) rfl rfl Try.func25 (by kernel_rfl) rfl #[.slice A0 l0.length c0] rfl (by (try simp only [List.map_toArray, List.map_cons, List.map_nil]); first | done | rfl | (simp only [List.length_drop, List.length_take]; rfl)) ?_; (with_reducible refine (spec_DrawCanBe.calls kj30 _ _ l0 t479 t480 t481 t484 t487 _ ?side1 ?side2 A59.out).mono ?_); (case side1 => exact (Kd.C_below HR0.out (below_up HB.out))); (case side2 => exact HC0.out); rintro e w61 ⟨v482, v485, rfl, ho0, ho1, hb⟩; refine ⟨_, rfl, ?_⟩; have n0_ := Aside0.mk (Kd.R_mono (Kd.R_told (Kd.R_told (Kd.R_old (Kd.R_up HO_6.out) hb) (Kd.Q_base ho0)) (Kd.R_base ho1)) (fun _ h_ => h_.1)); have n1_ := Aside0.mk (Kd.R_mono (Kd.R_told (Kd.R_told (Kd.R_old (Kd.R_up HO_7.out) hb) (Kd.Q_base ho0)) (Kd.R_base ho1)) (fun _ h_ => h_.1)); have n2_ := Aside0.mk (Kd.R_mono (Kd.R_told (Kd.R_told (Kd.R_old (Kd.R_up HO_8.out) hb) (Kd.Q_base ho0)) (Kd.R_base ho1)) (fun _ h_ => h_.1)); have n3_ := Aside0.mk (Kd.R_mono (Kd.R_told (Kd.R_told (Kd.R_old (Kd.R_up HO_9.out) hb) (Kd.Q_base ho0)) (Kd.R_base ho1)) (fun _ h_ => h_.1)); have n4_ := Aside0.mk (Kd.Q_mono (Kd.Q_told (Kd.Q_told (Kd.Q_old (Kd.Q_up HO_464002.out) hb) (Kd.Q_base ho0)) (Kd.R_base ho1)) (fun _ h_ => h_.1)); have n5_ := Aside0.mk (Kd.Q_lower (Kd.Q_new' (Kd.Q_new' (Kd.Q_new' (Kd.Q_new' (Kd.Q_new' ho0 (Kd.R_lt (Kd.R_up HO_6.out))) (Kd.R_lt (Kd.R_up HO_7.out))) (Kd.R_lt (Kd.R_up HO_8.out))) (Kd.R_lt (Kd.R_up HO_9.out))) (Kd.Q_lt (by (with_reducible repeat (first | apply Kd.Q_alloc | apply Kd.Q_drewN | apply Kd.Q_drew)); exact HO_464002.out))) (below_size (by repeat (first | (with_reducible first | exact HB.out | apply below_alloc | apply pw_below_drewN | apply below_drew1 | refine below_set ?_ GE463.out) | exact HB.out)))); have n6_ := Aside0.mk (Kd.R_lower (Kd.R_new' (Kd.R_new' (Kd.R_new' (Kd.R_new' (Kd.R_new' ho1 (Kd.R_lt (Kd.R_up HO_6.out))) (Kd.R_lt (Kd.R_up HO_7.out))) (Kd.R_lt (Kd.R_up HO_8.out))) (Kd.R_lt (Kd.R_up HO_9.out))) (Kd.Q_lt (by (with_reducible repeat (first | apply Kd.Q_alloc | apply Kd.Q_drewN | apply Kd.Q_drew)); exact HO_464002.out))) (below_size (by repeat (first | (with_reducible first | exact HB.out | apply below_alloc | apply pw_below_drewN | apply below_drew1 | refine below_set ?_ GE463.out) | exact HB.out)))); have n7_ := Aside0.mk (blk_below (g := gb463) (o := .cells #[.int .i64 t448, .int .i64 t449, .slice Ao11 t450.length co11] 27 (0, 0)) (blk_up BK463.out) hb); have n8_ := Aside0.mk (below_step (by repeat (first | (with_reducible first | exact HB.out | apply below_alloc | apply pw_below_drewN | apply below_drew1 | refine below_set ?_ GE463.out) | exact HB.out)) hb); clear HO_6; clear HO_7; clear HO_8; clear HO_9; clear HO_464002; clear BK463; clear HB; have HO_6 := n0_; have HO_7 := n1_; have HO_8 := n2_; have HO_9 := n3_; have HO_464002 := n4_; have HO483 := n5_; have HO486 := n6_; have BK463 := n7_; have HB := n8_; clear n0_ n1_ n2_ n3_ n4_ n5_ n6_ n7_ n8_; (try clear hb); (try clear hb2); (try clear hk); (try clear hi); (try clear ho0); (try clear ho1)) | ((with_reducible refine gate_dst (N := 13) rfl ?_); (try (refine gate_guard (by rfl) ?_; dsimp only)); refine box_event ?hg (N := 13) ?hd (cs := #[.int .i64 0, .int .i64 0, .slice none 0 0]) (t := 27) ?hr ?_; (case hd => rfl); (case hg => rfl); (case hr => first | (go_simp; done) | (go_simp; rfl)); intro gb488 hg w62 hbox hb; have n0_ := Aside0.mk (Kd.R_below (Kd.R_up HO_6.out) hb); have n1_ := Aside0.mk (Kd.R_below (Kd.R_up HO_7.out) hb); have n2_ := Aside0.mk (Kd.R_below (Kd.R_up HO_8.out) hb); have n3_ := Aside0.mk (Kd.R_below (Kd.R_up HO_9.out) hb); have n4_ := Aside0.mk (Kd.Q_below (Kd.Q_up HO_464002.out) hb); have n5_ := Aside0.mk (Kd.Q_below (Kd.Q_up HO483.out) hb); have n6_ := Aside0.mk (Kd.R_below (Kd.R_up HO486.out) hb); have n7_ := Aside0.mk (blk_below (g := gb463) (o := .cells #[.int .i64 t448, .int .i64 t449, .slice Ao11 t450.length co11] 27 (0, 0)) (blk_up BK463.out) hb); have n8_ := Aside0.mk (below_step (by repeat (first | (with_reducible first | exact HB.out | apply below_alloc | apply pw_below_drewN | apply below_drew1 | refine below_set ?_ GE463.out) | exact HB.out)) hb); have n9_ := Aside0.mk (hbox); have n10_ := Aside0.mk ((by rw [hg]; exact (below_size (by repeat (first | (with_reducible first | exact HB.out | apply below_alloc | apply pw_below_drewN | apply below_drew1 | refine below_set ?_ GE463.out) | exact HB.out))) : w.heap.size ≤ gb488)); have n11_ := Aside0.mk ((by rw [hg]; exact (below_size (by repeat (first | (with_reducible first | exact HB.out | apply below_alloc | apply pw_below_drewN | apply below_drew1 | refine below_set ?_ GE463.out) | exact HB.out))) : w.heap.size ≤ gb488)); have n12_ := Aside0.mk ((by rw [hg]; exact Nat.ne_of_lt (blk_lt (g := gb463) (o := .cells #[.int .i64 t448, .int .i64 t449, .slice Ao11 t450.length co11] 27 (0, 0)) (by (with_reducible repeat (first | refine blk_drewN ?_ _ | refine blk_drew ?_ | refine blk_alloc ?_ _)); exact BK463.out)) : gb463 ≠ gb488)); have n13_ := Aside0.mk ((by rw [hg]; exact Nat.ne_of_gt (blk_lt (g := gb463) (o := .cells #[.int .i64 t448, .int .i64 t449, .slice Ao11 t450.length co11] 27 (0, 0)) (by (with_reducible repeat (first | refine blk_drewN ?_ _ | refine blk_drew ?_ | refine blk_alloc ?_ _)); exact BK463.out)) : gb488 ≠ gb463)); clear HO_6; clear HO_7; clear HO_8; clear HO_9; clear HO_464002; clear HO483; clear HO486; clear BK463; clear HB; have HO_6 := n0_; have HO_7 := n1_; have HO_8 := n2_; have HO_9 := n3_; have HO_464002 := n4_; have HO483 := n5_; have HO486 := n6_; have BK463 := n7_; have HB := n8_; have BK488 := n9_; have GW488 := n10_; have GE488 := n11_; have NB463_488 := n12_; have NB488_463 := n13_; clear n0_ n1_ n2_ n3_ n4_ n5_ n6_ n7_ n8_ n9_ n10_ n11_ n12_ n13_; clear hb hbox hg; have hnb63 := NB488_463.out; have hnc63 := NB463_488.out; have hcz64_0 : w62.cell? ⟨gb488, 0, none⟩ = some (.int .i64 0) := (blk_cell BK488.out 0).trans rfl; have hcz64_1 : w62.cell? ⟨gb488, 1, none⟩ = some (.int .i64 0) := (blk_cell BK488.out 1).trans rfl; have hcz64_2 : w62.cell? ⟨gb488, 2, none⟩ = some (.slice none 0 0) := (blk_cell BK488.out 2).trans rfl; have hfz64_0 := blk_frozen BK488.out 0; have hfz64_1 := blk_frozen BK488.out 1; have hfz64_2 := blk_frozen BK488.out 2; obtain ⟨Ao65, co65, eo65, _⟩ := Kd.Q_slice HO483.out; subst eo65; obtain ⟨Ao66, co66, eo66⟩ := Kd.R_slice HO486.out; subst eo66) | ((with_reducible refine gate_callee (f := 11) rfl ?_); refine goesL_ (some 120) rfl rfl Try.func11 (by kernel_rfl) rfl #[.agg #[.int .i64 t479, .int .i64 t480, .slice Ao65 t481.length co65], .slice Ao66 t484.length co66, .int .i64 t487] rfl (by (try simp only [List.map_toArray, List.map_cons, List.map_nil]); first | done | rfl | (simp only [List.length_drop, List.length_take]; rfl)) ?_; (with_reducible refine (impl_CanBe.calls kj30 t479 t480 _ _ t481 _ _ t484 t487 t489 _ ?side1 ?side2 ?side3 ?side4 A60.out).mono ?_); (case side1 => refine (Kd.Q_reads' (e := 3) (base := w.heap.size) (ok := fun k_ => (((((some k_ ≠ (.slice Ao66 t484.length co66 : Value).ownBlock ∧ some k_ ≠ (.slice Ao15 t457.length co15 : Value).ownBlock) ∧ some k_ ≠ (.slice Ao16 t460.length co16 : Value).ownBlock) ∧ some k_ ≠ (v465 : Value).ownBlock) ∧ some k_ ≠ (v468 : Value).ownBlock) ∧ some k_ ≠ (.slice Ao11 t450.length co11 : Value).ownBlock)) (n := t481.length) (c := co65) ?_).2.2; exact (by (with_reducible repeat (first | apply Kd.Q_alloc | apply Kd.Q_drewN | apply Kd.Q_drew)); exact (Kd.Q_mono (Kd.Q_far (p := ⟨gb488, 2, none⟩) (Kd.Q_far (p := ⟨gb488, 1, none⟩) (Kd.Q_far (p := ⟨gb488, 0, none⟩) (Kd.Q_types HO483.out BK488.out (by decide)) (fun _ hk => hk.2) (.int .i64 t479)) (fun _ hk => hk.2) (.int .i64 t480)) (fun _ hk => hk.2) (.slice Ao65 t481.length co65)) (fun _ h_ => h_.1)))); (case side2 => exact (Kd.Q_reads' HO483.out).2.1); (case side3 => refine (Kd.R_reads' (e := 3) (base := w.heap.size) (ok := fun k_ => (((((some k_ ≠ (.slice Ao65 t481.length co65 : Value).ownBlock ∧ some k_ ≠ (.slice Ao15 t457.length co15 : Value).ownBlock) ∧ some k_ ≠ (.slice Ao16 t460.length co16 : Value).ownBlock) ∧ some k_ ≠ (v465 : Value).ownBlock) ∧ some k_ ≠ (v468 : Value).ownBlock) ∧ some k_ ≠ (.slice Ao11 t450.length co11 : Value).ownBlock)) (n := t484.length) (c := co66) ?_).2.2; exact (by (with_reducible repeat (first | apply Kd.R_alloc | apply Kd.R_drewN | apply Kd.R_drew)); exact (Kd.R_mono (Kd.R_far (p := ⟨gb488, 2, none⟩) (Kd.R_far (p := ⟨gb488, 1, none⟩) (Kd.R_far (p := ⟨gb488, 0, none⟩) (Kd.R_types HO486.out BK488.out (by decide)) (fun _ hk => hk.2) (.int .i64 t479)) (fun _ hk => hk.2) (.int .i64 t480)) (fun _ hk => hk.2) (.slice Ao65 t481.length co65)) (fun _ h_ => h_.1)))); (case side4 => exact (Kd.R_reads' HO486.out).2.1); rintro e w67 ⟨v490, rfl, ho0, hb⟩; refine ⟨_, rfl, ?_⟩; have n0_ := Aside0.mk (Kd.R_elder' (by (with_reducible repeat (first | apply Kd.R_alloc | apply Kd.R_drewN | apply Kd.R_drew)); exact (Kd.R_mono (Kd.R_far (p := ⟨gb488, 2, none⟩) (Kd.R_far (p := ⟨gb488, 1, none⟩) (Kd.R_far (p := ⟨gb488, 0, none⟩) (Kd.R_types HO_6.out BK488.out (by decide)) (fun _ hk => hk.2) (.int .i64 t479)) (fun _ hk => hk.2) (.int .i64 t480)) (fun _ hk => hk.2) (.slice Ao65 t481.length co65)) (fun _ h_ => h_.1))) (Kd.R_base ho0) hb); have n1_ := Aside0.mk (Kd.R_elder' (by (with_reducible repeat (first | apply Kd.R_alloc | apply Kd.R_drewN | apply Kd.R_drew)); exact (Kd.R_mono (Kd.R_far (p := ⟨gb488, 2, none⟩) (Kd.R_far (p := ⟨gb488, 1, none⟩) (Kd.R_far (p := ⟨gb488, 0, none⟩) (Kd.R_types HO_7.out BK488.out (by decide)) (fun _ hk => hk.2) (.int .i64 t479)) (fun _ hk => hk.2) (.int .i64 t480)) (fun _ hk => hk.2) (.slice Ao65 t481.length co65)) (fun _ h_ => h_.1))) (Kd.R_base ho0) hb); have n2_ := Aside0.mk (Kd.R_elder' (by (with_reducible repeat (first | apply Kd.R_alloc | apply Kd.R_drewN | apply Kd.R_drew)); exact (Kd.R_mono (Kd.R_far (p := ⟨gb488, 2, none⟩) (Kd.R_far (p := ⟨gb488, 1, none⟩) (Kd.R_far (p := ⟨gb488, 0, none⟩) (Kd.R_types HO_8.out BK488.out (by decide)) (fun _ hk => hk.2) (.int .i64 t479)) (fun _ hk => hk.2) (.int .i64 t480)) (fun _ hk => hk.2) (.slice Ao65 t481.length co65)) (fun _ h_ => h_.1))) (Kd.R_base ho0) hb); have n3_ := Aside0.mk (Kd.R_elder' (by (with_reducible repeat (first | apply Kd.R_alloc | apply Kd.R_drewN | apply Kd.R_drew)); exact (Kd.R_mono (Kd.R_far (p := ⟨gb488, 2, none⟩) (Kd.R_far (p := ⟨gb488, 1, none⟩) (Kd.R_far (p := ⟨gb488, 0, none⟩) (Kd.R_types HO_9.out BK488.out (by decide)) (fun _ hk => hk.2) (.int .i64 t479)) (fun _ hk => hk.2) (.int .i64 t480)) (fun _ hk => hk.2) (.slice Ao65 t481.length co65)) (fun _ h_ => h_.1))) (Kd.R_base ho0) hb); have n4_ := Aside0.mk (Kd.Q_elder' (by (with_reducible repeat (first | apply Kd.Q_alloc | apply Kd.Q_drewN | apply Kd.Q_drew)); exact (Kd.Q_mono (Kd.Q_far (p := ⟨gb488, 2, none⟩) (Kd.Q_far (p := ⟨gb488, 1, none⟩) (Kd.Q_far (p := ⟨gb488, 0, none⟩) (Kd.Q_types HO_464002.out BK488.out (by decide)) (fun _ hk => hk.2) (.int .i64 t479)) (fun _ hk => hk.2) (.int .i64 t480)) (fun _ hk => hk.2) (.slice Ao65 t481.length co65)) (fun _ h_ => h_.1))) (Kd.R_base ho0) hb); have n5_ := Aside0.mk (Kd.Q_elder' (by (with_reducible repeat (first | apply Kd.Q_alloc | apply Kd.Q_drewN | apply Kd.Q_drew)); exact (Kd.Q_mono (Kd.Q_far (p := ⟨gb488, 2, none⟩) (Kd.Q_far (p := ⟨gb488, 1, none⟩) (Kd.Q_far (p := ⟨gb488, 0, none⟩) (Kd.Q_types HO483.out BK488.out (by decide)) (fun _ hk => hk.2) (.int .i64 t479)) (fun _ hk => hk.2) (.int .i64 t480)) (fun _ hk => hk.2) (.slice Ao65 t481.length co65)) (fun _ h_ => h_.1))) (Kd.R_base ho0) hb); have n6_ := Aside0.mk (Kd.R_elder' (by (with_reducible repeat (first | apply Kd.R_alloc | apply Kd.R_drewN | apply Kd.R_drew)); exact (Kd.R_mono (Kd.R_far (p := ⟨gb488, 2, none⟩) (Kd.R_far (p := ⟨gb488, 1, none⟩) (Kd.R_far (p := ⟨gb488, 0, none⟩) (Kd.R_types HO486.out BK488.out (by decide)) (fun _ hk => hk.2) (.int .i64 t479)) (fun _ hk => hk.2) (.int .i64 t480)) (fun _ hk => hk.2) (.slice Ao65 t481.length co65)) (fun _ h_ => h_.1))) (Kd.R_base ho0) hb); have n7_ := Aside0.mk (Kd.R_lower (Kd.R_new' (Kd.R_new' (Kd.R_new' (Kd.R_new' (Kd.R_new' (Kd.R_new' (Kd.R_new' ho0 (Kd.R_lt (by (with_reducible repeat (first | apply Kd.R_alloc | apply Kd.R_drewN | apply Kd.R_drew)); exact (Kd.R_mono (Kd.R_far (p := ⟨gb488, 2, none⟩) (Kd.R_far (p := ⟨gb488, 1, none⟩) (Kd.R_far (p := ⟨gb488, 0, none⟩) (Kd.R_types HO_6.out BK488.out (by decide)) (fun _ hk => hk.2) (.int .i64 t479)) (fun _ hk => hk.2) (.int .i64 t480)) (fun _ hk => hk.2) (.slice Ao65 t481.length co65)) (fun _ h_ => h_.1))))) (Kd.R_lt (by (with_reducible repeat (first | apply Kd.R_alloc | apply Kd.R_drewN | apply Kd.R_drew)); exact (Kd.R_mono (Kd.R_far (p := ⟨gb488, 2, none⟩) (Kd.R_far (p := ⟨gb488, 1, none⟩) (Kd.R_far (p := ⟨gb488, 0, none⟩) (Kd.R_types HO_7.out BK488.out (by decide)) (fun _ hk => hk.2) (.int .i64 t479)) (fun _ hk => hk.2) (.int .i64 t480)) (fun _ hk => hk.2) (.slice Ao65 t481.length co65)) (fun _ h_ => h_.1))))) (Kd.R_lt (by (with_reducible repeat (first | apply Kd.R_alloc | apply Kd.R_drewN | apply Kd.R_drew)); exact (Kd.R_mono (Kd.R_far (p := ⟨gb488, 2, none⟩) (Kd.R_far (p := ⟨gb488, 1, none⟩) (Kd.R_far (p := ⟨gb488, 0, none⟩) (Kd.R_types HO_8.out BK488.out (by decide)) (fun _ hk => hk.2) (.int .i64 t479)) (fun _ hk => hk.2) (.int .i64 t480)) (fun _ hk => hk.2) (.slice Ao65 t481.length co65)) (fun _ h_ => h_.1))))) (Kd.R_lt (by (with_reducible repeat (first | apply Kd.R_alloc | apply Kd.R_drewN | apply Kd.R_drew)); exact (Kd.R_mono (Kd.R_far (p := ⟨gb488, 2, none⟩) (Kd.R_far (p := ⟨gb488, 1, none⟩) (Kd.R_far (p := ⟨gb488, 0, none⟩) (Kd.R_types HO_9.out BK488.out (by decide)) (fun _ hk => hk.2) (.int .i64 t479)) (fun _ hk => hk.2) (.int .i64 t480)) (fun _ hk => hk.2) (.slice Ao65 t481.length co65)) (fun _ h_ => h_.1))))) (Kd.Q_lt (by (with_reducible repeat (first | apply Kd.Q_alloc | apply Kd.Q_drewN | apply Kd.Q_drew)); exact (Kd.Q_mono (Kd.Q_far (p := ⟨gb488, 2, none⟩) (Kd.Q_far (p := ⟨gb488, 1, none⟩) (Kd.Q_far (p := ⟨gb488, 0, none⟩) (Kd.Q_types HO_464002.out BK488.out (by decide)) (fun _ hk => hk.2) (.int .i64 t479)) (fun _ hk => hk.2) (.int .i64 t480)) (fun _ hk => hk.2) (.slice Ao65 t481.length co65)) (fun _ h_ => h_.1))))) (Kd.Q_lt (by (with_reducible repeat (first | apply Kd.Q_alloc | apply Kd.Q_drewN | apply Kd.Q_drew)); exact (Kd.Q_mono (Kd.Q_far (p := ⟨gb488, 2, none⟩) (Kd.Q_far (p := ⟨gb488, 1, none⟩) (Kd.Q_far (p := ⟨gb488, 0, none⟩) (Kd.Q_types HO483.out BK488.out (by decide)) (fun _ hk => hk.2) (.int .i64 t479)) (fun _ hk => hk.2) (.int .i64 t480)) (fun _ hk => hk.2) (.slice Ao65 t481.length co65)) (fun _ h_ => h_.1))))) (Kd.R_lt (by (with_reducible repeat (first | apply Kd.R_alloc | apply Kd.R_drewN | apply Kd.R_drew)); exact (Kd.R_mono (Kd.R_far (p := ⟨gb488, 2, none⟩) (Kd.R_far (p := ⟨gb488, 1, none⟩) (Kd.R_far (p := ⟨gb488, 0, none⟩) (Kd.R_types HO486.out BK488.out (by decide)) (fun _ hk => hk.2) (.int .i64 t479)) (fun _ hk => hk.2) (.int .i64 t480)) (fun _ hk => hk.2) (.slice Ao65 t481.length co65)) (fun _ h_ => h_.1))))) (below_size (by repeat (first | (with_reducible first | exact HB.out | apply below_alloc | apply pw_below_drewN | apply below_drew1 | refine below_set ?_ GE463.out | refine below_set ?_ GE488.out) | exact HB.out)))); have n8_ := Aside0.mk (blk_below (g := gb463) (o := .cells #[.int .i64 t448, .int .i64 t449, .slice Ao11 t450.length co11] 27 (0, 0)) (by (with_reducible repeat (first | refine blk_drewN ?_ _ | refine blk_drew ?_ | refine blk_alloc ?_ _)); refine blk_far ?_ NB463_488.out _; (with_reducible repeat (first | refine blk_drewN ?_ _ | refine blk_drew ?_ | refine blk_alloc ?_ _)); refine blk_far ?_ NB463_488.out _; (with_reducible repeat (first | refine blk_drewN ?_ _ | refine blk_drew ?_ | refine blk_alloc ?_ _)); refine blk_far ?_ NB463_488.out _; (with_reducible repeat (first | refine blk_drewN ?_ _ | refine blk_drew ?_ | refine blk_alloc ?_ _)); exact BK463.out) hb); have n9_ := Aside0.mk (blk_below (g := gb488) (o := .cells #[.int .i64 t479, .int .i64 t480, .slice Ao65 t481.length co65] 27 (0, 0)) (by (with_reducible repeat (first | refine blk_drewN ?_ _ | refine blk_drew ?_ | refine blk_alloc ?_ _)); refine blk_put (cs := #[.int .i64 t479, .int .i64 t480, .slice none 0 0]) ?_ 2 _ rfl; (with_reducible repeat (first | refine blk_drewN ?_ _ | refine blk_drew ?_ | refine blk_alloc ?_ _)); refine blk_put (cs := #[.int .i64 t479, .int .i64 0, .slice none 0 0]) ?_ 1 _ rfl; (with_reducible repeat (first | refine blk_drewN ?_ _ | refine blk_drew ?_ | refine blk_alloc ?_ _)); refine blk_put (cs := #[.int .i64 0, .int .i64 0, .slice none 0 0]) ?_ 0 _ rfl; (with_reducible repeat (first | refine blk_drewN ?_ _ | refine blk_drew ?_ | refine blk_alloc ?_ _)); exact BK488.out) hb); have n10_ := Aside0.mk (below_step (by repeat (first | (with_reducible first | exact HB.out | apply below_alloc | apply pw_below_drewN | apply below_drew1 | refine below_set ?_ GE463.out | refine below_set ?_ GE488.out) | exact HB.out)) hb); clear HO_6; clear HO_7; clear HO_8; clear HO_9; clear HO_464002; clear HO483; clear HO486; clear BK463; clear BK488; clear HB; have HO_6 := n0_; have HO_7 := n1_; have HO_8 := n2_; have HO_9 := n3_; have HO_464002 := n4_; have HO483 := n5_; have HO486 := n6_; have HO491 := n7_; have BK463 := n8_; have BK488 := n9_; have HB := n10_; clear n0_ n1_ n2_ n3_ n4_ n5_ n6_ n7_ n8_ n9_ n10_; (try clear hb); (try clear hb2); (try clear hk); (try clear hi); (try clear ho0)))
       go_loopg [17] kj30 (fun kq v17 w' => ∃ (x17_4 : Int), v17 = .int .i64 x17_4 ∧ Aside0 (laws_FnPlaces.l2 kq t467 t484 t487 t489 x17_4 t479 t480 t481 = some true) ∧ Aside0 (kq ≤ kj30) ∧ Aside0 (Kd.R (Kd.int .i64) 3 w' w.heap.size (fun k_ => some k_ ≠ ((.slice Ao66 t484.length co66) : Value).ownBlock ∧ some k_ ≠ (v490 : Value).ownBlock ∧ some k_ ≠ ((.slice Ao11 t450.length co11) : Value).ownBlock ∧ some k_ ≠ ((.slice Ao65 t481.length co65) : Value).ownBlock) v468 t467) ∧ Aside0 (Kd.R (Kd.int .i64) 3 w' w.heap.size (fun k_ => some k_ ≠ (v468 : Value).ownBlock ∧ some k_ ≠ (v490 : Value).ownBlock ∧ some k_ ≠ ((.slice Ao11 t450.length co11) : Value).ownBlock ∧ some k_ ≠ ((.slice Ao65 t481.length co65) : Value).ownBlock) (.slice Ao66 t484.length co66) t484) ∧ Aside0 (Kd.R (Kd.int .i64) 3 w' w.heap.size (fun k_ => some k_ ≠ (v468 : Value).ownBlock ∧ some k_ ≠ ((.slice Ao66 t484.length co66) : Value).ownBlock ∧ some k_ ≠ ((.slice Ao11 t450.length co11) : Value).ownBlock ∧ some k_ ≠ ((.slice Ao65 t481.length co65) : Value).ownBlock) v490 t489) ∧ Aside0 (Kd.Q (Kd.int .i64) 3 w' w.heap.size (fun k_ => some k_ ≠ (v468 : Value).ownBlock ∧ some k_ ≠ ((.slice Ao66 t484.length co66) : Value).ownBlock ∧ some k_ ≠ (v490 : Value).ownBlock ∧ some k_ ≠ ((.slice Ao65 t481.length co65) : Value).ownBlock) (.slice Ao11 t450.length co11) t450) ∧ Aside0 (Kd.Q (Kd.int .i64) 3 w' w.heap.size (fun k_ => some k_ ≠ (v468 : Value).ownBlock ∧ some k_ ≠ ((.slice Ao66 t484.length co66) : Value).ownBlock ∧ some k_ ≠ (v490 : Value).ownBlock ∧ some k_ ≠ ((.slice Ao11 t450.length co11) : Value).ownBlock) (.slice Ao65 t481.length co65) t481) ∧ Aside0 (w'.heap[gb463]? = some (.cells #[.int .i64 t448, .int .i64 t449, (.slice Ao11 t450.length co11)] 27 (0, 0))) ∧ Aside0 (w'.heap[gb488]? = some (.cells #[.int .i64 t479, .int .i64 t480, (.slice Ao65 t481.length co65)] 27 (0, 0))) ∧ Aside0 (Below w.heap.size w w'))
       case atStart => exact ⟨(0), (by first | rfl | (simp; done) | (simp [*]; done)), H', ⟨Nat.le_refl _⟩, ⟨by (with_reducible repeat (first | apply Kd.R_alloc | apply Kd.R_drewN | apply Kd.R_drew)); exact Kd.R_mono HO_9.out (fun _ hk => ⟨hk.1.2, ⟨hk.2, ⟨hk.1.1.1.2.2.2, hk.1.1.2⟩⟩⟩)⟩, ⟨by (with_reducible repeat (first | apply Kd.R_alloc | apply Kd.R_drewN | apply Kd.R_drew)); exact Kd.R_mono HO486.out (fun _ hk => ⟨hk.1.1.2, ⟨hk.2, ⟨hk.1.2, hk.1.1.1.1.1.1⟩⟩⟩)⟩, ⟨by (with_reducible repeat (first | apply Kd.R_alloc | apply Kd.R_drewN | apply Kd.R_drew)); exact Kd.R_mono HO491.out (fun _ hk => ⟨hk.1.1.1.2, ⟨hk.2, ⟨hk.1.1.2, hk.1.2⟩⟩⟩)⟩, ⟨by (with_reducible repeat (first | apply Kd.Q_alloc | apply Kd.Q_drewN | apply Kd.Q_drew)); exact Kd.Q_mono HO_464002.out (fun _ hk => ⟨hk.1.1.1.2.2.2, ⟨hk.1.2, ⟨hk.2, hk.1.1.2⟩⟩⟩)⟩, ⟨by (with_reducible repeat (first | apply Kd.Q_alloc | apply Kd.Q_drewN | apply Kd.Q_drew)); exact Kd.Q_mono HO483.out (fun _ hk => ⟨hk.1.1.2, ⟨hk.1.1.1.1.1.1, ⟨hk.2, hk.1.2⟩⟩⟩)⟩, ⟨by (with_reducible repeat (first | refine blk_drewN ?_ _ | refine blk_drew ?_ | refine blk_alloc ?_ _)); exact BK463.out⟩, ⟨by (with_reducible repeat (first | refine blk_drewN ?_ _ | refine blk_drew ?_ | refine blk_alloc ?_ _)); exact BK488.out⟩, ⟨by repeat (first | (with_reducible first | exact HB.out | apply below_alloc | apply pw_below_drewN | apply below_drew1 | refine below_set ?_ GE463.out | refine below_set ?_ GE488.out) | exact HB.out)⟩⟩
       case round =>
        clear H'
        try clear c1
        try clear c2
        try clear p2
        try clear c3
        try clear c4
        try clear p4
        try clear q4
        try clear hx4
        try clear c5
        try clear c6
        try clear p6
        try clear c11
        try clear c23
        try clear c24
        try clear c25
        try clear c35
        try clear c36
        try clear c36b0
        try clear c37
        try clear c38
        try clear c39
        try clear c40
        try clear c42
        try clear c43
        try clear c43b0
        try clear c43b1
        try clear p47
        try clear q47
        try clear hx47
        try clear c51
        try clear c51b0
        try clear c52
        try clear c52b0
        try clear c54
        try clear c54b0
        try clear c54b1
        try clear c54b2
        try clear c63
        try clear p64
        try clear hcz64_0
        try clear hcz64_1
        try clear hcz64_2
        try clear hfz64_0
        try clear hfz64_1
        try clear hfz64_2
        try clear hx472_0
        try clear hx473_0
        try clear hx475_0
        try clear hx477_0
        try clear p472
        try clear p473
        try clear p475
        try clear p477
        try clear q472
        try clear q473
        try clear q475
        try clear q477
        obtain ⟨x17_4, rfl, HA, HK4, HO_9, HO_14, HO_16, HO_464002, HO_489002, BK463, BK488, HB⟩ := hrel
        cases gk with
        | zero => exact absurd HA.out (by simp [laws_FnPlaces.l2])
        | succ k4 =>
         have H := HA.out
         clear HA
         simp only [laws_FnPlaces.l2] at H
         by_cases c68 : x17_4 < (t484.length : Int)
         rotate_left
         · rw [if_neg c68] at H
           have c68b0 : decide (x17_4 < (t484.length : Int)) = false := decide_eq_false c68
           clear c68
           replace H := Option.bind_eq_some_iff.mp H
           obtain ⟨t492, A840, H⟩ := H
           have A84 := Aside0.mk A840
           clear A840
           replace H := Option.bind_eq_some_iff.mp H
           obtain ⟨t495, A850, H⟩ := H
           have A85 := Aside0.mk A850
           clear A850
           by_cases c86 : t495 = true
           rotate_left
           · replace c86 := Bool.eq_false_iff.mpr c86
             subst c86
             rw [if_neg (show ¬ (false = true) by decide)] at H
             exact absurd H (by simp)
           subst c86
           rw [if_pos rfl] at H
           replace H := Option.bind_eq_some_iff.mp H
           obtain ⟨t496, A870, H⟩ := H
           have A87 := Aside0.mk A870
           clear A870
           have H_ := Option.some.inj H
           clear H
           have hnb88 := NB488_463.out
           have hnc88 := NB463_488.out
           have hcz89_0 : wr.cell? ⟨gb488, 0, none⟩ = some (.int .i64 t479) := (blk_cell BK488.out 0).trans rfl
           have hcz89_1 : wr.cell? ⟨gb488, 1, none⟩ = some (.int .i64 t480) := (blk_cell BK488.out 1).trans rfl
           have hcz89_2 : wr.cell? ⟨gb488, 2, none⟩ = some (.slice Ao65 t481.length co65) := (blk_cell BK488.out 2).trans rfl
           have hfz89_0 := blk_frozen BK488.out 0
           have hfz89_1 := blk_frozen BK488.out 1
           have hfz89_2 := blk_frozen BK488.out 2
           go_wp2_with (first | ((with_reducible refine gate_callee (f := 11) rfl ?_); refine goesL_ (some 151) rfl rfl Try.func11 (by kernel_rfl) rfl #[.agg #[.int .i64 t479, .int .i64 t480, .slice Ao65 t481.length co65], .slice Ao66 t484.length co66, .int .i64 (wrap64 (t487 + 1))] rfl (by (try simp only [List.map_toArray, List.map_cons, List.map_nil]); first | done | rfl | (simp only [List.length_drop, List.length_take]; rfl)) ?_; (with_reducible refine (impl_CanBe.calls k4 t479 t480 _ _ t481 _ _ t484 (wrap64 (t487 + 1)) t492 _ ?side1 ?side2 ?side3 ?side4 A84.out).mono ?_); (case side1 => exact Kd.C_up ((Kd.Q_reads' HO_489002.out).2.2)); (case side2 => exact (Kd.Q_reads' HO_489002.out).2.1); (case side3 => exact Kd.C_up ((Kd.R_reads' HO_14.out).2.2)); (case side4 => exact (Kd.R_reads' HO_14.out).2.1); rintro e w90 ⟨v493, rfl, ho0, hb⟩; refine ⟨_, rfl, ?_⟩; have n0_ := Aside0.mk (Kd.R_elder' (Kd.R_up HO_9.out) (Kd.R_base ho0) hb); have n1_ := Aside0.mk (Kd.R_elder' (Kd.R_up HO_14.out) (Kd.R_base ho0) hb); have n2_ := Aside0.mk (Kd.R_elder' (Kd.R_up HO_16.out) (Kd.R_base ho0) hb); have n3_ := Aside0.mk (Kd.Q_elder' (Kd.Q_up HO_464002.out) (Kd.R_base ho0) hb); have n4_ := Aside0.mk (Kd.Q_elder' (Kd.Q_up HO_489002.out) (Kd.R_base ho0) hb); have n5_ := Aside0.mk (Kd.R_lower (Kd.R_new' (Kd.R_new' (Kd.R_new' (Kd.R_new' (Kd.R_new' ho0 (Kd.R_lt (Kd.R_up HO_9.out))) (Kd.R_lt (Kd.R_up HO_14.out))) (Kd.R_lt (Kd.R_up HO_16.out))) (Kd.Q_lt (Kd.Q_up HO_464002.out))) (Kd.Q_lt (by (with_reducible repeat (first | apply Kd.Q_alloc | apply Kd.Q_drewN | apply Kd.Q_drew)); exact HO_489002.out))) (below_size (by repeat (first | (with_reducible first | exact HB.out | apply below_alloc | apply pw_below_drewN | apply below_drew1 | refine below_set ?_ GE463.out | refine below_set ?_ GE488.out) | exact HB.out)))); have n6_ := Aside0.mk (blk_below (g := gb463) (o := .cells #[.int .i64 t448, .int .i64 t449, .slice Ao11 t450.length co11] 27 (0, 0)) (blk_up BK463.out) hb); have n7_ := Aside0.mk (blk_below (g := gb488) (o := .cells #[.int .i64 t479, .int .i64 t480, .slice Ao65 t481.length co65] 27 (0, 0)) (blk_up BK488.out) hb); have n8_ := Aside0.mk (below_step (by repeat (first | (with_reducible first | exact HB.out | apply below_alloc | apply pw_below_drewN | apply below_drew1 | refine below_set ?_ GE463.out | refine below_set ?_ GE488.out) | exact HB.out)) hb); clear HO_9; clear HO_14; clear HO_16; clear HO_464002; clear HO_489002; clear BK463; clear BK488; clear HB; have HO_9 := n0_; have HO_14 := n1_; have HO_16 := n2_; have HO_464002 := n3_; have HO_489002 := n4_; have HO494 := n5_; have BK463 := n6_; have BK488 := n7_; have HB := n8_; clear n0_ n1_ n2_ n3_ n4_ n5_ n6_ n7_ n8_; (try clear hb); (try clear hb2); (try clear hk); (try clear hi); (try clear ho0); obtain ⟨Ao91, co91, eo91⟩ := Kd.R_slice HO_16.out; subst eo91; obtain ⟨Ao92, co92, eo92⟩ := Kd.R_slice HO494.out; subst eo92) | ((with_reducible refine gate_callee (f := 22) rfl ?_); refine goesL_ (some 152) rfl rfl Try.func22 (by kernel_rfl) rfl #[.slice Ao91 t489.length co91, .slice Ao92 t492.length co92] rfl (by (try simp only [List.map_toArray, List.map_cons, List.map_nil]); first | done | rfl | (simp only [List.length_drop, List.length_take]; rfl)) ?_; (with_reducible refine (laws_within.calls k4 _ _ t489 _ _ t492 true _ ?side1 ?side2 ?side3 ?side4 A85.out).mono ?_); (case side1 => exact Kd.C_up ((Kd.R_reads' HO_16.out).2.2)); (case side2 => exact (Kd.R_reads' HO_16.out).2.1); (case side3 => exact Kd.C_up ((Kd.R_reads' HO494.out).2.2)); (case side4 => exact (Kd.R_reads' HO494.out).2.1); rintro e w' ⟨rfl, ⟨nd, rfl⟩⟩; refine ⟨_, rfl, ?_⟩; obtain ⟨Ao93, co93, eo93⟩ := Kd.R_slice HO_9.out; subst eo93) | (go_at_call 27; (with_reducible refine (impl_IsLost.calls _ _ t467 t496 _ ?side1 ?side2 A87.out).mono ?_); (case side1 => exact Kd.C_up ((Kd.R_reads' HO_9.out).2.2)); (case side2 => exact (Kd.R_reads' HO_9.out).2.1); rintro e w' ⟨rfl, ⟨nd, rfl⟩⟩))
           go_ret
           exact ⟨by first | rfl | (simp [errW_none, errW_some] <;> rfl) | (simp [*, errW_none, errW_some] <;> rfl), by repeat (first | (with_reducible first | exact HB.out | apply below_alloc | apply pw_below_drewN | apply below_drew1 | refine below_set ?_ GE463.out | refine below_set ?_ GE488.out) | exact HB.out)⟩
         rw [if_pos c68] at H
         have c68b0 : decide (x17_4 < (t484.length : Int)) = true := decide_eq_true c68
         clear c68
         by_cases c69 : t487 ≥ 0
         rotate_left
         · rw [if_neg c69] at H
           have c69b0 : decide (0 ≤ t487) = false := decide_eq_false c69
           clear c69
           have H' := Aside0.mk H
           clear H
           try go_wp2
           have n0_ := Aside0.mk (Kd.R_drew HO_9.out)
           have n1_ := Aside0.mk (Kd.R_drew HO_14.out)
           have n2_ := Aside0.mk (Kd.R_drew HO_16.out)
           have n3_ := Aside0.mk (Kd.Q_drew HO_464002.out)
           have n4_ := Aside0.mk (Kd.Q_drew HO_489002.out)
           have n5_ := Aside0.mk (blk_drew BK463.out)
           have n6_ := Aside0.mk (blk_drew BK488.out)
           have n7_ := Aside0.mk (below_drew1 HB.out)
           clear HO_9
           clear HO_14
           clear HO_16
           clear HO_464002
           clear HO_489002
           clear BK463
           clear BK488
           clear HB
           have HO_9 := n0_
           have HO_14 := n1_
           have HO_16 := n2_
           have HO_464002 := n3_
           have HO_489002 := n4_
           have BK463 := n5_
           have BK488 := n6_
           have HB := n7_
           clear n0_ n1_ n2_ n3_ n4_ n5_ n6_ n7_
           refine start_ (n := 19) (S := fun w' => True) (ds := []) (ar 19 0 []) (by kernel_rfl) rfl rfl trivial (fun hHeld => ?_); refine with_tabW laws_FnPlaces.tab23 laws_FnPlaces.bits23 (fun HT_ HW_ => ?_)
           generalize wr.drew = w83 at HO_9 HO_14 HO_16 HO_464002 HO_489002 BK463 BK488 HB hHeld ⊢
           refine pure_ (i := 0) (N := some 127) (v := ?_) (a' := ?_) (ar 19 1 []) rfl rfl (any_of HT_.out (by kernel_rfl)) (fun _ _ _ h => h) (Or.inl ⟨by rfl, ?_⟩) ?_ ?_
           rotate_left
           · intro w'
             go_simp
             with_reducible rfl
           rotate_left
           · simp only [Act.put, List.setIfInBounds_toArray, List.set_cons_zero, List.set_cons_succ, i64_w, i32_w]
             rfl
           refine pure_ (i := 1) (N := some 128) (v := ?_) (a' := ?_) (ar 19 2 []) rfl rfl (any_of HT_.out (by kernel_rfl)) (fun _ _ _ h => h) (Or.inl ⟨by rfl, ?_⟩) ?_ ?_
           rotate_left
           · intro w'
             go_simp
             with_reducible rfl
           rotate_left
           · simp only [Act.put, List.setIfInBounds_toArray, List.set_cons_zero, List.set_cons_succ, i64_w, i32_w]
             rfl
           refine pure_ (i := 2) (N := some 129) (v := ?_) (a' := ?_) (ar 19 3 []) rfl rfl (any_of HT_.out (by kernel_rfl)) (fun _ _ _ h => h) (Or.inl ⟨by rfl, ?_⟩) ?_ ?_
           rotate_left
           · intro w'
             go_simp
             with_reducible rfl
           rotate_left
           · simp only [Act.put, List.setIfInBounds_toArray, List.set_cons_zero, List.set_cons_succ, i64_w, i32_w]
             rfl
           refine pure_ (i := 3) (N := some 130) (v := undef) (a' := ?_) (ar 19 4 []) rfl rfl (any_of HT_.out (by kernel_rfl)) (fun _ _ _ h => h) (Or.inr ⟨by rfl, rfl⟩) ?_ ?_
           rotate_left
           · simp only [Act.put, List.setIfInBounds_toArray, List.set_cons_zero, List.set_cons_succ, i64_w, i32_w]
             rfl
           refine pure_ (i := 4) (N := some 131) (v := undef) (a' := ?_) (ar 19 5 []) rfl rfl (any_of HT_.out (by kernel_rfl)) (fun _ _ _ h => h) (Or.inr ⟨by rfl, rfl⟩) ?_ ?_
           rotate_left
           · simp only [Act.put, List.setIfInBounds_toArray, List.set_cons_zero, List.set_cons_succ, i64_w, i32_w]
             rfl
           refine pure_ (i := 5) (N := some 132) (v := undef) (a' := ?_) (ar 19 6 []) rfl rfl (any_of HT_.out (by kernel_rfl)) (fun _ _ _ h => h) (Or.inr ⟨by rfl, rfl⟩) ?_ ?_
           rotate_left
           · simp only [Act.put, List.setIfInBounds_toArray, List.set_cons_zero, List.set_cons_succ, i64_w, i32_w]
             rfl
           refine pure_ (i := 6) (N := some 133) (v := undef) (a' := ?_) (ar 19 7 []) rfl rfl (any_of HT_.out (by kernel_rfl)) (fun _ _ _ h => h) (Or.inr ⟨by rfl, rfl⟩) ?_ ?_
           rotate_left
           · simp only [Act.put, List.setIfInBounds_toArray, List.set_cons_zero, List.set_cons_succ, i64_w, i32_w]
             rfl
           refine pure_ (i := 7) (N := some 134) (v := undef) (a' := ?_) (ar 19 8 []) rfl rfl (any_of HT_.out (by kernel_rfl)) (fun _ _ _ h => h) (Or.inr ⟨by rfl, rfl⟩) ?_ ?_
           rotate_left
           · simp only [Act.put, List.setIfInBounds_toArray, List.set_cons_zero, List.set_cons_succ, i64_w, i32_w]
             rfl
           refine pure_ (i := 8) (N := some 135) (v := undef) (a' := ?_) (ar 19 9 []) rfl rfl (any_of HT_.out (by kernel_rfl)) (fun _ _ _ h => h) (Or.inr ⟨by rfl, rfl⟩) ?_ ?_
           rotate_left
           · simp only [Act.put, List.setIfInBounds_toArray, List.set_cons_zero, List.set_cons_succ, i64_w, i32_w]
             rfl
           refine pure_ (i := 9) (N := some 136) (v := ?_) (a' := ?_) (ar 19 10 []) rfl rfl (any_of HT_.out (by kernel_rfl)) (fun _ _ _ h => h) (Or.inl ⟨by rfl, ?_⟩) ?_ ?_
           rotate_left
           · intro w'
             go_simp
             with_reducible rfl
           rotate_left
           · simp only [Act.put, List.setIfInBounds_toArray, List.set_cons_zero, List.set_cons_succ, i64_w, i32_w]
             rfl
           refine pure_ (i := 10) (N := some 137) (v := ?_) (a' := ?_) (ar 19 11 []) rfl rfl (any_of HT_.out (by kernel_rfl)) (fun _ _ _ h => h) (Or.inl ⟨by rfl, ?_⟩) ?_ ?_
           rotate_left
           · intro w'
             go_simp
             with_reducible rfl
           rotate_left
           · simp only [Act.put, List.setIfInBounds_toArray, List.set_cons_zero, List.set_cons_succ, i64_w, i32_w]
             rfl
           refine pure_ (i := 11) (N := some 138) (v := undef) (a' := ?_) (ar 19 12 []) rfl rfl (any_of HT_.out (by kernel_rfl)) (fun _ _ _ h => h) (Or.inr ⟨by rfl, rfl⟩) ?_ ?_
           rotate_left
           · simp only [Act.put, List.setIfInBounds_toArray, List.set_cons_zero, List.set_cons_succ, i64_w, i32_w]
             rfl
           refine pure_ (i := 12) (N := some 139) (v := undef) (a' := ?_) (ar 19 13 []) rfl rfl (any_of HT_.out (by kernel_rfl)) (fun _ _ _ h => h) (Or.inr ⟨by rfl, rfl⟩) ?_ ?_
           rotate_left
           · simp only [Act.put, List.setIfInBounds_toArray, List.set_cons_zero, List.set_cons_succ, i64_w, i32_w]
             rfl
           refine pure_ (i := 13) (N := some 140) (v := undef) (a' := ?_) (ar 19 14 []) rfl rfl (any_of HT_.out (by kernel_rfl)) (fun _ _ _ h => h) (Or.inr ⟨by rfl, rfl⟩) ?_ ?_
           rotate_left
           · simp only [Act.put, List.setIfInBounds_toArray, List.set_cons_zero, List.set_cons_succ, i64_w, i32_w]
             rfl
           refine pure_ (i := 14) (N := some 141) (v := undef) (a' := ?_) (ar 19 15 []) rfl rfl (any_of HT_.out (by kernel_rfl)) (fun _ _ _ h => h) (Or.inr ⟨by rfl, rfl⟩) ?_ ?_
           rotate_left
           · simp only [Act.put, List.setIfInBounds_toArray, List.set_cons_zero, List.set_cons_succ, i64_w, i32_w]
             rfl
           refine pure_ (i := 15) (N := some 142) (v := undef) (a' := ?_) (ar 19 16 []) rfl rfl (any_of HT_.out (by kernel_rfl)) (fun _ _ _ h => h) (Or.inr ⟨by rfl, rfl⟩) ?_ ?_
           rotate_left
           · simp only [Act.put, List.setIfInBounds_toArray, List.set_cons_zero, List.set_cons_succ, i64_w, i32_w]
             rfl
           refine pure_ (i := 16) (N := some 143) (v := undef) (a' := ?_) (ar 19 17 []) rfl rfl (any_of HT_.out (by kernel_rfl)) (fun _ _ _ h => h) (Or.inr ⟨by rfl, rfl⟩) ?_ ?_
           rotate_left
           · simp only [Act.put, List.setIfInBounds_toArray, List.set_cons_zero, List.set_cons_succ, i64_w, i32_w]
             rfl
           refine pure_ (i := 17) (N := some 144) (v := undef) (a' := ?_) (ar 19 18 []) rfl rfl (any_of HT_.out (by kernel_rfl)) (fun _ _ _ h => h) (Or.inr ⟨by rfl, rfl⟩) ?_ ?_
           rotate_left
           · simp only [Act.put, List.setIfInBounds_toArray, List.set_cons_zero, List.set_cons_succ, i64_w, i32_w]
             rfl
           refine pure_ (i := 18) (N := some 145) (v := ?_) (a' := ?_) (ar 19 19 []) rfl rfl (any_of HT_.out (by kernel_rfl)) (fun _ _ _ h => h) (Or.inl ⟨by rfl, ?_⟩) ?_ ?_
           rotate_left
           · intro w'
             go_simp
             with_reducible rfl
           rotate_left
           · simp only [Act.put, List.setIfInBounds_toArray, List.set_cons_zero, List.set_cons_succ, i64_w, i32_w]
             rfl
           refine done_ (done_of HT_.out (by kernel_rfl)) ?_
           try go_wp2
           go_roundg k4
           case measure => have := HJ6.out; have := HK2.out; have := HJ30.out; have := HK4.out; omega
           case rel => exact ⟨(wrap64 (x17_4 + 1)), (by first | rfl | (simp; done) | (simp [*]; done)), H', ⟨by have := HJ6.out; have := HK2.out; have := HJ30.out; have := HK4.out; omega⟩, ⟨by (with_reducible repeat (first | apply Kd.R_alloc | apply Kd.R_drewN | apply Kd.R_drew)); exact HO_9.out⟩, ⟨by (with_reducible repeat (first | apply Kd.R_alloc | apply Kd.R_drewN | apply Kd.R_drew)); exact HO_14.out⟩, ⟨by (with_reducible repeat (first | apply Kd.R_alloc | apply Kd.R_drewN | apply Kd.R_drew)); exact HO_16.out⟩, ⟨by (with_reducible repeat (first | apply Kd.Q_alloc | apply Kd.Q_drewN | apply Kd.Q_drew)); exact HO_464002.out⟩, ⟨by (with_reducible repeat (first | apply Kd.Q_alloc | apply Kd.Q_drewN | apply Kd.Q_drew)); exact HO_489002.out⟩, ⟨by (with_reducible repeat (first | refine blk_drewN ?_ _ | refine blk_drew ?_ | refine blk_alloc ?_ _)); exact BK463.out⟩, ⟨by (with_reducible repeat (first | refine blk_drewN ?_ _ | refine blk_drew ?_ | refine blk_alloc ?_ _)); exact BK488.out⟩, ⟨by repeat (first | (with_reducible first | exact HB.out | apply below_alloc | apply pw_below_drewN | apply below_drew1 | refine below_set ?_ GE463.out | refine below_set ?_ GE488.out) | exact HB.out)⟩⟩
         rw [if_pos c69] at H
         have c69b0 : decide (0 ≤ t487) = true := decide_eq_true c69
         clear c69
         by_cases c70 : 0 ≤ x17_4
         rotate_left
         · rw [if_neg c70] at H
           exact absurd H (by simp)
         rw [if_pos c70] at H
         have c70b0 : decide (0 ≤ x17_4) = true := decide_eq_true c70
         clear c70
         replace H := Option.bind_eq_some_iff.mp H
         obtain ⟨t498, A710, H⟩ := H
         have A71 := Aside0.mk A710
         clear A710
         by_cases c72 : t498 = true
         rotate_left
         · replace c72 := Bool.eq_false_iff.mpr c72
           subst c72
           rw [if_neg (show ¬ (false = true) by decide)] at H
           have H' := Aside0.mk H
           clear H
           try go_wp2
           have n0_ := Aside0.mk (Kd.R_drew HO_9.out)
           have n1_ := Aside0.mk (Kd.R_drew HO_14.out)
           have n2_ := Aside0.mk (Kd.R_drew HO_16.out)
           have n3_ := Aside0.mk (Kd.Q_drew HO_464002.out)
           have n4_ := Aside0.mk (Kd.Q_drew HO_489002.out)
           have n5_ := Aside0.mk (blk_drew BK463.out)
           have n6_ := Aside0.mk (blk_drew BK488.out)
           have n7_ := Aside0.mk (below_drew1 HB.out)
           clear HO_9
           clear HO_14
           clear HO_16
           clear HO_464002
           clear HO_489002
           clear BK463
           clear BK488
           clear HB
           have HO_9 := n0_
           have HO_14 := n1_
           have HO_16 := n2_
           have HO_464002 := n3_
           have HO_489002 := n4_
           have BK463 := n5_
           have BK488 := n6_
           have HB := n7_
           clear n0_ n1_ n2_ n3_ n4_ n5_ n6_ n7_
           have p497 : 0 ≤ (x17_4 : Int) := of_decide_eq_true (by first | (with_reducible assumption) | assumption)
           have q497 : x17_4 < (t484.length : Int) := of_decide_eq_true (by first | (with_reducible assumption) | assumption)
           obtain ⟨ad497, e497, hx497_0⟩ := Kd.at_int (Kd.R_reads' HO_14.out).2.2 x17_4 p497 q497
           cases e497
           replace p497 := eq_true p497
           replace q497 := eq_true q497
           refine start_ (n := 19) (S := fun w' => w'.cell? ⟨gb488, 0, none⟩ = some (.int .i64 t479) ∧ w'.cell? ⟨gb488, 1, none⟩ = some (.int .i64 t480) ∧ w'.cell? ⟨gb488, 2, none⟩ = some (.slice Ao65 t481.length co65) ∧ w'.cell? (ad497.add (x17_4).toNat) = some (.int .i64 (rd t484 x17_4))) (ds := []) (ar 19 0 []) (by kernel_rfl) rfl rfl ⟨(blk_cell BK488.out 0).trans rfl, (blk_cell BK488.out 1).trans rfl, (blk_cell BK488.out 2).trans rfl, hx497_0⟩ (fun hHeld => ?_); refine with_tabW laws_FnPlaces.tab23 laws_FnPlaces.bits23 (fun HT_ HW_ => ?_)
           generalize wr.drew = w81 at HO_9 HO_14 HO_16 HO_464002 HO_489002 BK463 BK488 HB hx497_0 hHeld ⊢
           refine pure_ (i := 0) (N := some 127) (v := ?_) (a' := ?_) (ar 19 1 []) rfl rfl (any_of HT_.out (by kernel_rfl)) (fun _ _ _ h => h) (Or.inl ⟨by rfl, ?_⟩) ?_ ?_
           rotate_left
           · intro w'
             go_simp
             with_reducible rfl
           rotate_left
           · simp only [Act.put, List.setIfInBounds_toArray, List.set_cons_zero, List.set_cons_succ, i64_w, i32_w]
             rfl
           refine pure_ (i := 1) (N := some 128) (v := ?_) (a' := ?_) (ar 19 2 []) rfl rfl (any_of HT_.out (by kernel_rfl)) (fun _ _ _ h => h) (Or.inl ⟨by rfl, ?_⟩) ?_ ?_
           rotate_left
           · intro w'
             go_simp
             with_reducible rfl
           rotate_left
           · simp only [Act.put, List.setIfInBounds_toArray, List.set_cons_zero, List.set_cons_succ, i64_w, i32_w]
             rfl
           refine pure_ (i := 2) (N := some 129) (v := ?_) (a' := ?_) (ar 19 3 []) rfl rfl (any_of HT_.out (by kernel_rfl)) (fun _ _ _ h => h) (Or.inl ⟨by rfl, ?_⟩) ?_ ?_
           rotate_left
           · intro w'
             go_simp
             with_reducible rfl
           rotate_left
           · simp only [Act.put, List.setIfInBounds_toArray, List.set_cons_zero, List.set_cons_succ, i64_w, i32_w]
             rfl
           refine pure_ (i := 4) (N := some 131) (v := ?_) (a' := ?_) (ar 19 5 [3]) rfl rfl (any_of HT_.out (by kernel_rfl)) (fun _ _ _ h => h) (Or.inl ⟨by rfl, ?_⟩) ?_ ?_
           rotate_left
           · intro w'
             go_simp
             with_reducible rfl
           rotate_left
           · simp only [Act.put, List.setIfInBounds_toArray, List.set_cons_zero, List.set_cons_succ, i64_w, i32_w]
             rfl
           refine pure_ (i := 5) (N := some 132) (v := ?_) (a' := ?_) (ar 19 6 [3]) rfl rfl (any_of HT_.out (by kernel_rfl)) (fun _ _ _ h => h) (Or.inl ⟨by rfl, ?_⟩) ?_ ?_
           rotate_left
           · intro w'
             go_simp
             with_reducible rfl
           rotate_left
           · simp only [Act.put, List.setIfInBounds_toArray, List.set_cons_zero, List.set_cons_succ, i64_w, i32_w]
             rfl
           refine pure_ (i := 6) (N := some 133) (v := ?_) (a' := ?_) (ar 19 7 [3]) rfl rfl (any_of HT_.out (by kernel_rfl)) (fun _ _ _ h => h) (Or.inl ⟨by rfl, ?_⟩) ?_ ?_
           rotate_left
           · intro w'
             go_simp
             with_reducible rfl
           rotate_left
           · simp only [Act.put, List.setIfInBounds_toArray, List.set_cons_zero, List.set_cons_succ, i64_w, i32_w]
             rfl
           refine take_ (i := 3) (N := some 130) (v := ?_) (a' := ?_) (ar 19 7 []) rfl rfl (take_ofW HT_.out HW_.out (by kernel_rfl)) (fun _ _ _ h => h) (Or.inl ⟨by rfl, ?_⟩) hHeld ?_ ?_
           rotate_left
           · rintro w' ⟨s0, s1, s2, s3⟩
             go_simp
             with_reducible rfl
           rotate_left
           · simp only [Act.put, List.setIfInBounds_toArray, List.set_cons_zero, List.set_cons_succ, i64_w, i32_w]
             rfl
           refine take_ (i := 7) (N := some 134) (v := ?_) (a' := ?_) (ar 19 8 []) rfl rfl (take_ofW HT_.out HW_.out (by kernel_rfl)) (fun _ _ _ h => h) (Or.inl ⟨by rfl, ?_⟩) hHeld ?_ ?_
           rotate_left
           · rintro w' ⟨s0, s1, s2, s3⟩
             go_simp
             with_reducible rfl
           rotate_left
           · simp only [Act.put, List.setIfInBounds_toArray, List.set_cons_zero, List.set_cons_succ, i64_w, i32_w]
             rfl
           refine one_ (i := 8) (N := some 135) (ar 19 9 []) rfl rfl (one_of HT_.out (by kernel_rfl)) (by decide) (fun K hK => ?_)
           refine goes_ Try.func26 (by kernel_rfl) rfl #[.agg #[.int .i64 t479, .int .i64 t480, .slice Ao65 t481.length co65], .int .i64 (rd t484 x17_4)] (by rfl) rfl rfl (by (try simp only [List.map_toArray, List.map_cons, List.map_nil]); first | done | rfl | (simp only [List.length_drop, List.length_take]; rfl)) ?_
           with_reducible refine (impl_IsOpen.calls k4 t479 t480 _ _ t481 (rd t484 x17_4) false _ ?side1 ?side2 A71.out).mono ?_
           (case side1 => exact Kd.C_up ((Kd.Q_reads' HO_489002.out).2.2))
           (case side2 => exact (Kd.Q_reads' HO_489002.out).2.1)
           rintro e w82 ⟨rfl, hb⟩
           have HS3_ := (hb.cell (World.block_lt_of_cell? _ _ (hHeld.2.2.2))).trans (hHeld.2.2.2)
           refine ⟨_, rfl, ?_⟩
           have n0_ := Aside0.mk (Kd.R_below (Kd.R_up HO_9.out) hb)
           have n1_ := Aside0.mk (Kd.R_below (Kd.R_up HO_14.out) hb)
           have n2_ := Aside0.mk (Kd.R_below (Kd.R_up HO_16.out) hb)
           have n3_ := Aside0.mk (Kd.Q_below (Kd.Q_up HO_464002.out) hb)
           have n4_ := Aside0.mk (Kd.Q_below (Kd.Q_up HO_489002.out) hb)
           have n5_ := Aside0.mk (blk_below (g := gb463) (o := .cells #[.int .i64 t448, .int .i64 t449, .slice Ao11 t450.length co11] 27 (0, 0)) (blk_up BK463.out) hb)
           have n6_ := Aside0.mk (blk_below (g := gb488) (o := .cells #[.int .i64 t479, .int .i64 t480, .slice Ao65 t481.length co65] 27 (0, 0)) (blk_up BK488.out) hb)
           have n7_ := Aside0.mk (below_step (by repeat (first | (with_reducible first | exact HB.out | apply below_alloc | apply pw_below_drewN | apply below_drew1 | refine below_set ?_ GE463.out | refine below_set ?_ GE488.out) | exact HB.out)) hb)
           clear HO_9
           clear HO_14
           clear HO_16
           clear HO_464002
           clear HO_489002
           clear BK463
           clear BK488
           clear HB
           have HO_9 := n0_
           have HO_14 := n1_
           have HO_16 := n2_
           have HO_464002 := n3_
           have HO_489002 := n4_
           have BK463 := n5_
           have BK488 := n6_
           have HB := n7_
           clear n0_ n1_ n2_ n3_ n4_ n5_ n6_ n7_
           (try clear hb)
           (try clear hb2)
           (try clear hk)
           (try clear hi)
           refine hK.out _ _ ⟨(blk_cell BK488.out 0).trans rfl, (blk_cell BK488.out 1).trans rfl, (blk_cell BK488.out 2).trans rfl, HS3_⟩ (fun hHeld => ?_)
           clear hK K
           refine norm_ (a' := ?_) ?_ ?_
           rotate_left
           · show Act.put _ (some 135) _ = _
             simp only [Act.put, List.setIfInBounds_toArray, List.set_cons_zero, List.set_cons_succ, i64_w, i32_w]
             rfl
           refine pure_ (i := 9) (N := some 136) (v := ?_) (a' := ?_) (ar 19 10 []) rfl rfl (any_of HT_.out (by kernel_rfl)) (fun _ _ _ h => h) (Or.inl ⟨by rfl, ?_⟩) ?_ ?_
           rotate_left
           · intro w'
             go_simp
             with_reducible rfl
           rotate_left
           · simp only [Act.put, List.setIfInBounds_toArray, List.set_cons_zero, List.set_cons_succ, i64_w, i32_w]
             rfl
           refine pure_ (i := 10) (N := some 137) (v := ?_) (a' := ?_) (ar 19 11 []) rfl rfl (any_of HT_.out (by kernel_rfl)) (fun _ _ _ h => h) (Or.inl ⟨by rfl, ?_⟩) ?_ ?_
           rotate_left
           · intro w'
             go_simp
             with_reducible rfl
           rotate_left
           · simp only [Act.put, List.setIfInBounds_toArray, List.set_cons_zero, List.set_cons_succ, i64_w, i32_w]
             rfl
           refine pure_ (i := 11) (N := some 138) (v := undef) (a' := ?_) (ar 19 12 []) rfl rfl (any_of HT_.out (by kernel_rfl)) (fun _ _ _ h => h) (Or.inr ⟨by rfl, rfl⟩) ?_ ?_
           rotate_left
           · simp only [Act.put, List.setIfInBounds_toArray, List.set_cons_zero, List.set_cons_succ, i64_w, i32_w]
             rfl
           refine pure_ (i := 12) (N := some 139) (v := undef) (a' := ?_) (ar 19 13 []) rfl rfl (any_of HT_.out (by kernel_rfl)) (fun _ _ _ h => h) (Or.inr ⟨by rfl, rfl⟩) ?_ ?_
           rotate_left
           · simp only [Act.put, List.setIfInBounds_toArray, List.set_cons_zero, List.set_cons_succ, i64_w, i32_w]
             rfl
           refine pure_ (i := 13) (N := some 140) (v := undef) (a' := ?_) (ar 19 14 []) rfl rfl (any_of HT_.out (by kernel_rfl)) (fun _ _ _ h => h) (Or.inr ⟨by rfl, rfl⟩) ?_ ?_
           rotate_left
           · simp only [Act.put, List.setIfInBounds_toArray, List.set_cons_zero, List.set_cons_succ, i64_w, i32_w]
             rfl
           refine pure_ (i := 14) (N := some 141) (v := undef) (a' := ?_) (ar 19 15 []) rfl rfl (any_of HT_.out (by kernel_rfl)) (fun _ _ _ h => h) (Or.inr ⟨by rfl, rfl⟩) ?_ ?_
           rotate_left
           · simp only [Act.put, List.setIfInBounds_toArray, List.set_cons_zero, List.set_cons_succ, i64_w, i32_w]
             rfl
           refine pure_ (i := 15) (N := some 142) (v := undef) (a' := ?_) (ar 19 16 []) rfl rfl (any_of HT_.out (by kernel_rfl)) (fun _ _ _ h => h) (Or.inr ⟨by rfl, rfl⟩) ?_ ?_
           rotate_left
           · simp only [Act.put, List.setIfInBounds_toArray, List.set_cons_zero, List.set_cons_succ, i64_w, i32_w]
             rfl
           refine pure_ (i := 16) (N := some 143) (v := undef) (a' := ?_) (ar 19 17 []) rfl rfl (any_of HT_.out (by kernel_rfl)) (fun _ _ _ h => h) (Or.inr ⟨by rfl, rfl⟩) ?_ ?_
           rotate_left
           · simp only [Act.put, List.setIfInBounds_toArray, List.set_cons_zero, List.set_cons_succ, i64_w, i32_w]
             rfl
           refine pure_ (i := 17) (N := some 144) (v := undef) (a' := ?_) (ar 19 18 []) rfl rfl (any_of HT_.out (by kernel_rfl)) (fun _ _ _ h => h) (Or.inr ⟨by rfl, rfl⟩) ?_ ?_
           rotate_left
           · simp only [Act.put, List.setIfInBounds_toArray, List.set_cons_zero, List.set_cons_succ, i64_w, i32_w]
             rfl
           refine pure_ (i := 18) (N := some 145) (v := ?_) (a' := ?_) (ar 19 19 []) rfl rfl (any_of HT_.out (by kernel_rfl)) (fun _ _ _ h => h) (Or.inl ⟨by rfl, ?_⟩) ?_ ?_
           rotate_left
           · intro w'
             go_simp
             with_reducible rfl
           rotate_left
           · simp only [Act.put, List.setIfInBounds_toArray, List.set_cons_zero, List.set_cons_succ, i64_w, i32_w]
             rfl
           refine done_ (done_of HT_.out (by kernel_rfl)) ?_
           try go_wp2
           go_roundg k4
           case measure => have := HJ6.out; have := HK2.out; have := HJ30.out; have := HK4.out; omega
           case rel => exact ⟨(wrap64 (x17_4 + 1)), (by first | rfl | (simp; done) | (simp [*]; done)), H', ⟨by have := HJ6.out; have := HK2.out; have := HJ30.out; have := HK4.out; omega⟩, ⟨by (with_reducible repeat (first | apply Kd.R_alloc | apply Kd.R_drewN | apply Kd.R_drew)); exact HO_9.out⟩, ⟨by (with_reducible repeat (first | apply Kd.R_alloc | apply Kd.R_drewN | apply Kd.R_drew)); exact HO_14.out⟩, ⟨by (with_reducible repeat (first | apply Kd.R_alloc | apply Kd.R_drewN | apply Kd.R_drew)); exact HO_16.out⟩, ⟨by (with_reducible repeat (first | apply Kd.Q_alloc | apply Kd.Q_drewN | apply Kd.Q_drew)); exact HO_464002.out⟩, ⟨by (with_reducible repeat (first | apply Kd.Q_alloc | apply Kd.Q_drewN | apply Kd.Q_drew)); exact HO_489002.out⟩, ⟨by (with_reducible repeat (first | refine blk_drewN ?_ _ | refine blk_drew ?_ | refine blk_alloc ?_ _)); exact BK463.out⟩, ⟨by (with_reducible repeat (first | refine blk_drewN ?_ _ | refine blk_drew ?_ | refine blk_alloc ?_ _)); exact BK488.out⟩, ⟨by repeat (first | (with_reducible first | exact HB.out | apply below_alloc | apply pw_below_drewN | apply below_drew1 | refine below_set ?_ GE463.out | refine below_set ?_ GE488.out) | exact HB.out)⟩⟩
         subst c72
         rw [if_pos rfl] at H
         replace H := Option.bind_eq_some_iff.mp H
         obtain ⟨t500, A730, H⟩ := H
         have A73 := Aside0.mk A730
         clear A730
         by_cases c74 : t500 = true
         rotate_left
         · replace c74 := Bool.eq_false_iff.mpr c74
           subst c74
           rw [if_neg (show ¬ (false = true) by decide)] at H
           exact absurd H (by simp)
         subst c74
         rw [if_pos rfl] at H
         have H' := Aside0.mk H
         clear H
         try go_wp2
         have n0_ := Aside0.mk (Kd.R_drew HO_9.out)
         have n1_ := Aside0.mk (Kd.R_drew HO_14.out)
         have n2_ := Aside0.mk (Kd.R_drew HO_16.out)
         have n3_ := Aside0.mk (Kd.Q_drew HO_464002.out)
         have n4_ := Aside0.mk (Kd.Q_drew HO_489002.out)
         have n5_ := Aside0.mk (blk_drew BK463.out)
         have n6_ := Aside0.mk (blk_drew BK488.out)
         have n7_ := Aside0.mk (below_drew1 HB.out)
         clear HO_9
         clear HO_14
         clear HO_16
         clear HO_464002
         clear HO_489002
         clear BK463
         clear BK488
         clear HB
         have HO_9 := n0_
         have HO_14 := n1_
         have HO_16 := n2_
         have HO_464002 := n3_
         have HO_489002 := n4_
         have BK463 := n5_
         have BK488 := n6_
         have HB := n7_
         clear n0_ n1_ n2_ n3_ n4_ n5_ n6_ n7_
         have p497 : 0 ≤ (x17_4 : Int) := of_decide_eq_true (by first | (with_reducible assumption) | assumption)
         have q497 : x17_4 < (t484.length : Int) := of_decide_eq_true (by first | (with_reducible assumption) | assumption)
         obtain ⟨ad497, e497, hx497_0⟩ := Kd.at_int (Kd.R_reads' HO_14.out).2.2 x17_4 p497 q497
         cases e497
         replace p497 := eq_true p497
         replace q497 := eq_true q497
         have p499 : 0 ≤ (x17_4 : Int) := of_decide_eq_true (by first | (with_reducible assumption) | assumption)
         have q499 : x17_4 < (t484.length : Int) := of_decide_eq_true (by first | (with_reducible assumption) | assumption)
         obtain ⟨ad499, e499, hx499_0⟩ := Kd.at_int (Kd.R_reads' HO_14.out).2.2 x17_4 p499 q499
         obtain rfl : ad497 = ad499 := (by injection e499)
         replace p499 := eq_true p499
         replace q499 := eq_true q499
         refine start_ (n := 19) (S := fun w' => w'.cell? ⟨gb488, 0, none⟩ = some (.int .i64 t479) ∧ w'.cell? ⟨gb488, 1, none⟩ = some (.int .i64 t480) ∧ w'.cell? ⟨gb488, 2, none⟩ = some (.slice Ao65 t481.length co65) ∧ w'.cell? (ad497.add (x17_4).toNat) = some (.int .i64 (rd t484 x17_4)) ∧ w'.cell? (ad497.add (x17_4).toNat) = some (.int .i64 (rd t484 x17_4))) (ds := []) (ar 19 0 []) (by kernel_rfl) rfl rfl ⟨(blk_cell BK488.out 0).trans rfl, (blk_cell BK488.out 1).trans rfl, (blk_cell BK488.out 2).trans rfl, hx497_0, hx499_0⟩ (fun hHeld => ?_); refine with_tabW laws_FnPlaces.tab23 laws_FnPlaces.bits23 (fun HT_ HW_ => ?_)
         generalize wr.drew = w75 at HO_9 HO_14 HO_16 HO_464002 HO_489002 BK463 BK488 HB hx497_0 hx499_0 hHeld ⊢
         refine pure_ (i := 0) (N := some 127) (v := ?_) (a' := ?_) (ar 19 1 []) rfl rfl (any_of HT_.out (by kernel_rfl)) (fun _ _ _ h => h) (Or.inl ⟨by rfl, ?_⟩) ?_ ?_
         rotate_left
         · intro w'
           go_simp
           with_reducible rfl
         rotate_left
         · simp only [Act.put, List.setIfInBounds_toArray, List.set_cons_zero, List.set_cons_succ, i64_w, i32_w]
           rfl
         refine pure_ (i := 1) (N := some 128) (v := ?_) (a' := ?_) (ar 19 2 []) rfl rfl (any_of HT_.out (by kernel_rfl)) (fun _ _ _ h => h) (Or.inl ⟨by rfl, ?_⟩) ?_ ?_
         rotate_left
         · intro w'
           go_simp
           with_reducible rfl
         rotate_left
         · simp only [Act.put, List.setIfInBounds_toArray, List.set_cons_zero, List.set_cons_succ, i64_w, i32_w]
           rfl
         refine pure_ (i := 2) (N := some 129) (v := ?_) (a' := ?_) (ar 19 3 []) rfl rfl (any_of HT_.out (by kernel_rfl)) (fun _ _ _ h => h) (Or.inl ⟨by rfl, ?_⟩) ?_ ?_
         rotate_left
         · intro w'
           go_simp
           with_reducible rfl
         rotate_left
         · simp only [Act.put, List.setIfInBounds_toArray, List.set_cons_zero, List.set_cons_succ, i64_w, i32_w]
           rfl
         refine pure_ (i := 4) (N := some 131) (v := ?_) (a' := ?_) (ar 19 5 [3]) rfl rfl (any_of HT_.out (by kernel_rfl)) (fun _ _ _ h => h) (Or.inl ⟨by rfl, ?_⟩) ?_ ?_
         rotate_left
         · intro w'
           go_simp
           with_reducible rfl
         rotate_left
         · simp only [Act.put, List.setIfInBounds_toArray, List.set_cons_zero, List.set_cons_succ, i64_w, i32_w]
           rfl
         refine pure_ (i := 5) (N := some 132) (v := ?_) (a' := ?_) (ar 19 6 [3]) rfl rfl (any_of HT_.out (by kernel_rfl)) (fun _ _ _ h => h) (Or.inl ⟨by rfl, ?_⟩) ?_ ?_
         rotate_left
         · intro w'
           go_simp
           with_reducible rfl
         rotate_left
         · simp only [Act.put, List.setIfInBounds_toArray, List.set_cons_zero, List.set_cons_succ, i64_w, i32_w]
           rfl
         refine pure_ (i := 6) (N := some 133) (v := ?_) (a' := ?_) (ar 19 7 [3]) rfl rfl (any_of HT_.out (by kernel_rfl)) (fun _ _ _ h => h) (Or.inl ⟨by rfl, ?_⟩) ?_ ?_
         rotate_left
         · intro w'
           go_simp
           with_reducible rfl
         rotate_left
         · simp only [Act.put, List.setIfInBounds_toArray, List.set_cons_zero, List.set_cons_succ, i64_w, i32_w]
           rfl
         refine take_ (i := 3) (N := some 130) (v := ?_) (a' := ?_) (ar 19 7 []) rfl rfl (take_ofW HT_.out HW_.out (by kernel_rfl)) (fun _ _ _ h => h) (Or.inl ⟨by rfl, ?_⟩) hHeld ?_ ?_
         rotate_left
         · rintro w' ⟨s0, s1, s2, s3, s4⟩
           go_simp
           with_reducible rfl
         rotate_left
         · simp only [Act.put, List.setIfInBounds_toArray, List.set_cons_zero, List.set_cons_succ, i64_w, i32_w]
           rfl
         refine take_ (i := 7) (N := some 134) (v := ?_) (a' := ?_) (ar 19 8 []) rfl rfl (take_ofW HT_.out HW_.out (by kernel_rfl)) (fun _ _ _ h => h) (Or.inl ⟨by rfl, ?_⟩) hHeld ?_ ?_
         rotate_left
         · rintro w' ⟨s0, s1, s2, s3, s4⟩
           go_simp
           with_reducible rfl
         rotate_left
         · simp only [Act.put, List.setIfInBounds_toArray, List.set_cons_zero, List.set_cons_succ, i64_w, i32_w]
           rfl
         refine one_ (i := 8) (N := some 135) (ar 19 9 []) rfl rfl (one_of HT_.out (by kernel_rfl)) (by decide) (fun K hK => ?_)
         refine goes_ Try.func26 (by kernel_rfl) rfl #[.agg #[.int .i64 t479, .int .i64 t480, .slice Ao65 t481.length co65], .int .i64 (rd t484 x17_4)] (by rfl) rfl rfl (by (try simp only [List.map_toArray, List.map_cons, List.map_nil]); first | done | rfl | (simp only [List.length_drop, List.length_take]; rfl)) ?_
         with_reducible refine (impl_IsOpen.calls k4 t479 t480 _ _ t481 (rd t484 x17_4) true _ ?side1 ?side2 A71.out).mono ?_
         (case side1 => exact Kd.C_up ((Kd.Q_reads' HO_489002.out).2.2))
         (case side2 => exact (Kd.Q_reads' HO_489002.out).2.1)
         rintro e w76 ⟨rfl, hb⟩
         have HS3_ := (hb.cell (World.block_lt_of_cell? _ _ (hHeld.2.2.2.1))).trans (hHeld.2.2.2.1)
         have HS4_ := (hb.cell (World.block_lt_of_cell? _ _ (hHeld.2.2.2.2))).trans (hHeld.2.2.2.2)
         refine ⟨_, rfl, ?_⟩
         have n0_ := Aside0.mk (Kd.R_below (Kd.R_up HO_9.out) hb)
         have n1_ := Aside0.mk (Kd.R_below (Kd.R_up HO_14.out) hb)
         have n2_ := Aside0.mk (Kd.R_below (Kd.R_up HO_16.out) hb)
         have n3_ := Aside0.mk (Kd.Q_below (Kd.Q_up HO_464002.out) hb)
         have n4_ := Aside0.mk (Kd.Q_below (Kd.Q_up HO_489002.out) hb)
         have n5_ := Aside0.mk (blk_below (g := gb463) (o := .cells #[.int .i64 t448, .int .i64 t449, .slice Ao11 t450.length co11] 27 (0, 0)) (blk_up BK463.out) hb)
         have n6_ := Aside0.mk (blk_below (g := gb488) (o := .cells #[.int .i64 t479, .int .i64 t480, .slice Ao65 t481.length co65] 27 (0, 0)) (blk_up BK488.out) hb)
         have n7_ := Aside0.mk (below_step (by repeat (first | (with_reducible first | exact HB.out | apply below_alloc | apply pw_below_drewN | apply below_drew1 | refine below_set ?_ GE463.out | refine below_set ?_ GE488.out) | exact HB.out)) hb)
         clear HO_9
         clear HO_14
         clear HO_16
         clear HO_464002
         clear HO_489002
         clear BK463
         clear BK488
         clear HB
         have HO_9 := n0_
         have HO_14 := n1_
         have HO_16 := n2_
         have HO_464002 := n3_
         have HO_489002 := n4_
         have BK463 := n5_
         have BK488 := n6_
         have HB := n7_
         clear n0_ n1_ n2_ n3_ n4_ n5_ n6_ n7_
         (try clear hb)
         (try clear hb2)
         (try clear hk)
         (try clear hi)
         obtain ⟨Ao77, co77, eo77⟩ := Kd.R_slice HO_16.out
         (first | subst eo77 | (injection eo77 with f1_ f2_ f3_; have f4_ := f1_.symm; have f5_ := f3_.symm; clear f1_ f2_ f3_; subst f4_; subst f5_))
         refine hK.out _ _ ⟨(blk_cell BK488.out 0).trans rfl, (blk_cell BK488.out 1).trans rfl, (blk_cell BK488.out 2).trans rfl, HS3_, HS4_⟩ (fun hHeld => ?_)
         clear hK K
         refine norm_ (a' := ?_) ?_ ?_
         rotate_left
         · show Act.put _ (some 135) _ = _
           simp only [Act.put, List.setIfInBounds_toArray, List.set_cons_zero, List.set_cons_succ, i64_w, i32_w]
           rfl
         refine pure_ (i := 9) (N := some 136) (v := ?_) (a' := ?_) (ar 19 10 []) rfl rfl (any_of HT_.out (by kernel_rfl)) (fun _ _ _ h => h) (Or.inl ⟨by rfl, ?_⟩) ?_ ?_
         rotate_left
         · intro w'
           go_simp
           with_reducible rfl
         rotate_left
         · simp only [Act.put, List.setIfInBounds_toArray, List.set_cons_zero, List.set_cons_succ, i64_w, i32_w]
           rfl
         refine pure_ (i := 10) (N := some 137) (v := ?_) (a' := ?_) (ar 19 11 []) rfl rfl (any_of HT_.out (by kernel_rfl)) (fun _ _ _ h => h) (Or.inl ⟨by rfl, ?_⟩) ?_ ?_
         rotate_left
         · intro w'
           go_simp
           with_reducible rfl
         rotate_left
         · simp only [Act.put, List.setIfInBounds_toArray, List.set_cons_zero, List.set_cons_succ, i64_w, i32_w]
           rfl
         refine pure_ (i := 11) (N := some 138) (v := ?_) (a' := ?_) (ar 19 12 []) rfl rfl (any_of HT_.out (by kernel_rfl)) (fun _ _ _ h => h) (Or.inl ⟨by rfl, ?_⟩) ?_ ?_
         rotate_left
         · intro w'
           go_simp
           with_reducible rfl
         rotate_left
         · simp only [Act.put, List.setIfInBounds_toArray, List.set_cons_zero, List.set_cons_succ, i64_w, i32_w]
           rfl
         refine pure_ (i := 12) (N := some 139) (v := ?_) (a' := ?_) (ar 19 13 []) rfl rfl (any_of HT_.out (by kernel_rfl)) (fun _ _ _ h => h) (Or.inl ⟨by rfl, ?_⟩) ?_ ?_
         rotate_left
         · intro w'
           go_simp
           with_reducible rfl
         rotate_left
         · simp only [Act.put, List.setIfInBounds_toArray, List.set_cons_zero, List.set_cons_succ, i64_w, i32_w]
           rfl
         refine pure_ (i := 13) (N := some 140) (v := ?_) (a' := ?_) (ar 19 14 []) rfl rfl (any_of HT_.out (by kernel_rfl)) (fun _ _ _ h => h) (Or.inl ⟨by rfl, ?_⟩) ?_ ?_
         rotate_left
         · intro w'
           go_simp
           with_reducible rfl
         rotate_left
         · simp only [Act.put, List.setIfInBounds_toArray, List.set_cons_zero, List.set_cons_succ, i64_w, i32_w]
           rfl
         refine pure_ (i := 14) (N := some 141) (v := ?_) (a' := ?_) (ar 19 15 []) rfl rfl (any_of HT_.out (by kernel_rfl)) (fun _ _ _ h => h) (Or.inl ⟨by rfl, ?_⟩) ?_ ?_
         rotate_left
         · intro w'
           go_simp
           with_reducible rfl
         rotate_left
         · simp only [Act.put, List.setIfInBounds_toArray, List.set_cons_zero, List.set_cons_succ, i64_w, i32_w]
           rfl
         refine take_ (i := 15) (N := some 142) (v := ?_) (a' := ?_) (ar 19 16 []) rfl rfl (take_ofW HT_.out HW_.out (by kernel_rfl)) (fun _ _ _ h => h) (Or.inl ⟨by rfl, ?_⟩) hHeld ?_ ?_
         rotate_left
         · rintro w' ⟨s0, s1, s2, s3, s4⟩
           go_simp
           with_reducible rfl
         rotate_left
         · simp only [Act.put, List.setIfInBounds_toArray, List.set_cons_zero, List.set_cons_succ, i64_w, i32_w]
           rfl
         refine one_ (i := 16) (N := some 143) (ar 19 17 []) rfl rfl (one_of HT_.out (by kernel_rfl)) (by decide) (fun K hK => ?_)
         refine goes_ Try.func24 (by kernel_rfl) rfl #[.slice Ao77 t489.length co77, .int .i64 (rd t484 x17_4)] (by rfl) rfl rfl (by (try simp only [List.map_toArray, List.map_cons, List.map_nil]); first | done | rfl | (simp only [List.length_drop, List.length_take]; rfl)) ?_
         with_reducible refine (laws_contains.calls k4 _ _ t489 (rd t484 x17_4) true _ ?side1 ?side2 A73.out).mono ?_
         (case side1 => exact Kd.C_up ((Kd.R_reads' HO_16.out).2.2))
         (case side2 => exact (Kd.R_reads' HO_16.out).2.1)
         rintro e w' ⟨rfl, ⟨nd, rfl⟩⟩
         refine ⟨_, rfl, ?_⟩
         refine hK.out _ _ ⟨(blk_cell BK488.out 0).trans rfl, (blk_cell BK488.out 1).trans rfl, (blk_cell BK488.out 2).trans rfl, hHeld.2.2.2.1, hHeld.2.2.2.2⟩ (fun hHeld => ?_)
         clear hK K
         refine norm_ (a' := ?_) ?_ ?_
         rotate_left
         · show Act.put _ (some 143) _ = _
           simp only [Act.put, List.setIfInBounds_toArray, List.set_cons_zero, List.set_cons_succ, i64_w, i32_w]
           rfl
         refine pure_ (i := 17) (N := some 144) (v := ?_) (a' := ?_) (ar 19 18 []) rfl rfl (any_of HT_.out (by kernel_rfl)) (fun _ _ _ h => h) (Or.inl ⟨by rfl, ?_⟩) ?_ ?_
         rotate_left
         · intro w'
           go_simp
           with_reducible rfl
         rotate_left
         · simp only [Act.put, List.setIfInBounds_toArray, List.set_cons_zero, List.set_cons_succ, i64_w, i32_w]
           rfl
         refine pure_ (i := 18) (N := some 145) (v := ?_) (a' := ?_) (ar 19 19 []) rfl rfl (any_of HT_.out (by kernel_rfl)) (fun _ _ _ h => h) (Or.inl ⟨by rfl, ?_⟩) ?_ ?_
         rotate_left
         · intro w'
           go_simp
           with_reducible rfl
         rotate_left
         · simp only [Act.put, List.setIfInBounds_toArray, List.set_cons_zero, List.set_cons_succ, i64_w, i32_w]
           rfl
         refine done_ (done_of HT_.out (by kernel_rfl)) ?_
         try go_wp2
         go_roundg k4
         case measure => have := HJ6.out; have := HK2.out; have := HJ30.out; have := HK4.out; omega
         case rel => exact ⟨(wrap64 (x17_4 + 1)), (by first | rfl | (simp; done) | (simp [*]; done)), H', ⟨by have := HJ6.out; have := HK2.out; have := HJ30.out; have := HK4.out; omega⟩, ⟨by (with_reducible repeat (first | apply Kd.R_alloc | apply Kd.R_drewN | apply Kd.R_drew)); exact HO_9.out⟩, ⟨by (with_reducible repeat (first | apply Kd.R_alloc | apply Kd.R_drewN | apply Kd.R_drew)); exact HO_14.out⟩, ⟨by (with_reducible repeat (first | apply Kd.R_alloc | apply Kd.R_drewN | apply Kd.R_drew)); exact HO_16.out⟩, ⟨by (with_reducible repeat (first | apply Kd.Q_alloc | apply Kd.Q_drewN | apply Kd.Q_drew)); exact HO_464002.out⟩, ⟨by (with_reducible repeat (first | apply Kd.Q_alloc | apply Kd.Q_drewN | apply Kd.Q_drew)); exact HO_489002.out⟩, ⟨by (with_reducible repeat (first | refine blk_drewN ?_ _ | refine blk_drew ?_ | refine blk_alloc ?_ _)); exact BK463.out⟩, ⟨by (with_reducible repeat (first | refine blk_drewN ?_ _ | refine blk_drew ?_ | refine blk_alloc ?_ _)); exact BK488.out⟩, ⟨by repeat (first | (with_reducible first | exact HB.out | apply below_alloc | apply pw_below_drewN | apply below_drew1 | refine below_set ?_ GE463.out | refine below_set ?_ GE488.out) | exact HB.out)⟩⟩
/-- THE ONE PURE STATEMENT of laws_FnPlaces: yours. -/
def laws_FnPlaces.Pure : Prop := ∀ (l0 : List Int), l0.length ≤ maxLen → l0.length * 1 ≤ 140737488351232 → (∀ x ∈ l0, (Lit.int .u8 x).wf = true) → ∃ k, laws_FnPlaces.f k l0 = some true
theorem laws_FnPlaces.walk (P : laws_FnPlaces.Pure) (a0 : Option Addr) (len0 cap0 : Nat) (z0 : List Int) (w : World) (w0 : (a0 = none ∧ len0 = 0 ∧ cap0 = 0 ∧ z0 = []) ∨ ∃ x, a0 = some x ∧ len0 ≤ cap0 ∧ cap0 ≤ maxLen ∧ z0.length = cap0 ∧ (∀ i, i < z0.length → w.cell? (x.add i) = some (.int .u8 (z0.getD i 0))) ∧ ∀ n ∈ z0, (Lit.int .u8 n).wf = true) (y0 : len0 * 1 ≤ 140737488351232) :
 Calls Try.prog 5 #[.slice a0 len0 cap0] w fun e w' => e = .returned (.bool true) ∧ Below w.heap.size w w' := by
 obtain ⟨l0, rfl, hr0, hm0, hw0, hc0⟩ := ReadsInt.ofRowC w0
 obtain ⟨k, h⟩ := P l0 hm0 y0 hw0
 refine (laws_FnPlaces.calls k _ _ l0 true w (Kd.C_of_reads (d := (0 : Int)) (h1 := fun _ => rfl) hr0) hc0 h).mono ?_
 rintro e w' ⟨rfl, hd⟩
 exact ⟨rfl, hd⟩

end Go.Proofs.Ytdgpnmbmnnmdcab.PFnPlaces
