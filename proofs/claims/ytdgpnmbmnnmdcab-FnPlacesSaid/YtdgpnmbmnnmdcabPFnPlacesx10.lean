/- Contracts of Go functions: what print.sh prints, written shorter by short.py. -/
import Derived.Test.YtdgpnmbmnnmdcabUp
import Derived.Test.YtdgpnmbmnnmdcabPFnPlacesx0
import Derived.Test.YtdgpnmbmnnmdcabPFnPlacesx5
import Derived.Test.YtdgpnmbmnnmdcabPFnPlacesx6
import Derived.Test.YtdgpnmbmnnmdcabPFnPlacesx9
namespace Go.Proofs.Ytdgpnmbmnnmdcab.PFnPlaces
open Go.RowKit Go.Proofs.YtdgpnmbmnnmdcabW.PrintWords Go.Proofs.YtdgpnmbmnnmdcabW.PrintLast Go.Proofs.YtdgpnmbmnnmdcabW.PrintMore
attribute [local go_sem] max2_int min2_int max_two min_two max_three min_three max_four min_four   -- for this text's walks alone
set_option linter.unusedVariables false
set_option linter.unusedSimpArgs false

/-! ### spec_DrawPlacesAfter: function 20 -/
def spec_DrawPlacesAfter.l0 : Nat → Int → List Int → List Int → Int → List Int → Int → Int → Int → Int → List Int → Option (Int × Int × List Int × List Int × Int × List Int × List Int)
 | 0, _, _, _, _, _, _, _, _, _, _ => none
 | k + 1, x10, x11, x12, x13, x337000, x337001, x337002, x345000, x345001, x345002 => if x13 > 0 then ((spec_l1Below.f x337000 x337001 x337002 (x345002.length : Int)).bind fun bt361 => (if x11.length < 17592186044416 then ((spec_Apart.f k x345000 x345001 x345002 bt361.1 x10).bind fun t367 => (if x12.length < 17592186044416 then (spec_DrawPlacesAfter.l0 k x10 (x11 ++ [bt361.1]) (x12 ++ [t367]) (wrap64 (x13 - 1)) x337000 bt361.2.1 bt361.2.2 x345000 x345001 x345002) else (none))) else (none))) else ((spec_l1Once.f x337000 x337001 x337002 8).bind fun bt371 => (if bt371.1 = true then (if x11.length < 17592186044416 then (some (x345000, x345001, x345002, (([0] : List Int)), 3, (x11 ++ [0]), x12)) else (none)) else (some (x345000, x345001, x345002, (([0] : List Int)), 3, x11, x12))))
def spec_DrawPlacesAfter.f (k : Nat) (l0 : List Int) : Option (Int × Int × List Int × List Int × Int × List Int × List Int) := (spec_l1New.f k l0).bind fun bt333 => ((spec_l4Draw.f k bt333.1 bt333.2.1 bt333.2.2).bind fun bt337 => ((spec_Reach.f k bt337.1 bt337.2.1 bt337.2.2.1 0 3).bind fun t345 => ((spec_l1Below.f bt333.1 bt337.2.2.2.1 bt337.2.2.2.2 (t345.length : Int)).bind fun bt348 => (if 0 ≤ bt348.1 then (if bt348.1 < (t345.length : Int) then ((spec_l1Below.f bt333.1 bt348.2.1 bt348.2.2 3).bind fun bt358 => (spec_DrawPlacesAfter.l0 k (rd t345 bt348.1) (([] : List Int)) (([] : List Int)) bt358.1 bt333.1 bt358.2.1 bt358.2.2 bt337.1 bt337.2.1 bt337.2.2.1)) else (none)) else (none)))))
theorem spec_DrawPlacesAfter.mono_l : ∀ k, (∀ y0 y1 y2 y3 y4 y5 y6 y7 y8 y9, LeO (spec_DrawPlacesAfter.l0 k y0 y1 y2 y3 y4 y5 y6 y7 y8 y9) (spec_DrawPlacesAfter.l0 (k + 1) y0 y1 y2 y3 y4 y5 y6 y7 y8 y9))
 | 0 => fun _ _ _ _ _ _ _ _ _ _ r h => by simp [spec_DrawPlacesAfter.l0] at h
 | k + 1 => by
  have ih0 := spec_DrawPlacesAfter.mono_l k
  · intro y0 y1 y2 y3 y4 y5 y6 y7 y8 y9
    unfold spec_DrawPlacesAfter.l0
    repeat' first
    | (with_reducible exact ih0 _ _ _ _ _ _ _ _ _ _)
    | (with_reducible exact spec_Apart.mono _ _ _ _ _ _)
    | (with_reducible exact spec_Reach.mono _ _ _ _ _ _)
    | (with_reducible exact spec_l1New.mono _ _)
    | (with_reducible exact spec_l4Draw.mono _ _ _ _)
    | (with_reducible exact LeO.refl _)
    | (with_reducible exact LeO.none _)
    | (with_reducible refine LeO.ite ?_ ?_)
    | (with_reducible refine LeO.bind ?_ (fun _ => ?_))
    | exact ih0 _ _ _ _ _ _ _ _ _ _
    | exact spec_Apart.mono _ _ _ _ _ _
    | exact spec_Reach.mono _ _ _ _ _ _
    | exact spec_l1New.mono _ _
    | exact spec_l4Draw.mono _ _ _ _
    | exact LeO.none _
    | refine LeO.ite ?_ ?_
    | refine LeO.bind ?_ (fun _ => ?_)
theorem spec_DrawPlacesAfter.mono : ∀ a0 k, LeO (spec_DrawPlacesAfter.f k a0) (spec_DrawPlacesAfter.f (k + 1) a0) := by
 intro a0 k
 have ih0 := spec_DrawPlacesAfter.mono_l k
 unfold spec_DrawPlacesAfter.f
 repeat' first
  | (with_reducible exact ih0 _ _ _ _ _ _ _ _ _ _)
  | (with_reducible exact spec_Apart.mono _ _ _ _ _ _)
  | (with_reducible exact spec_Reach.mono _ _ _ _ _ _)
  | (with_reducible exact spec_l1New.mono _ _)
  | (with_reducible exact spec_l4Draw.mono _ _ _ _)
  | (with_reducible exact LeO.refl _)
  | (with_reducible exact LeO.none _)
  | (with_reducible refine LeO.ite ?_ ?_)
  | (with_reducible refine LeO.bind ?_ (fun _ => ?_))
  | exact ih0 _ _ _ _ _ _ _ _ _ _
  | exact spec_Apart.mono _ _ _ _ _ _
  | exact spec_Reach.mono _ _ _ _ _ _
  | exact spec_l1New.mono _ _
  | exact spec_l4Draw.mono _ _ _ _
  | exact LeO.none _
  | refine LeO.ite ?_ ?_
  | refine LeO.bind ?_ (fun _ => ?_)
set_option maxHeartbeats 8000000 in
set_option maxRecDepth 100000 in
theorem spec_DrawPlacesAfter.calls (k : Nat) (A0 : Option Addr) (c0 : Nat) (l0 : List Int) (r1 : Int) (r2 : Int) (r3 : List Int) (r4 : List Int) (r5 : Int) (r6 : List Int) (r7 : List Int) (w : World) (hr0 : Kd.C (Kd.int .u8) w A0 l0.length l0) (hc0 : l0.length ≤ c0) (h : spec_DrawPlacesAfter.f k l0 = some (r1, r2, r3, r4, r5, r6, r7)) :
 Calls Try.prog 20 #[.slice A0 l0.length c0] w fun e w' => ∃ v2_ v3_ v5_ v6_ : Value, e = .returned (.tuple #[.agg #[.int .i64 r1, .int .i64 r2, v2_], v3_, .int .i64 r5, v5_, v6_]) ∧ Kd.R (Kd.int .i64) 3 w' w.heap.size (fun k_ => some k_ ≠ (v3_ : Value).ownBlock ∧ some k_ ≠ (v5_ : Value).ownBlock ∧ some k_ ≠ (v6_ : Value).ownBlock) v2_ r3 ∧ Kd.R (Kd.int .i64) 3 w' w.heap.size (fun k_ => some k_ ≠ (v2_ : Value).ownBlock ∧ some k_ ≠ (v5_ : Value).ownBlock ∧ some k_ ≠ (v6_ : Value).ownBlock) v3_ r4 ∧ Kd.R (Kd.int .i64) 3 w' w.heap.size (fun k_ => some k_ ≠ (v2_ : Value).ownBlock ∧ some k_ ≠ (v3_ : Value).ownBlock ∧ some k_ ≠ (v6_ : Value).ownBlock) v5_ r6 ∧ Kd.R (Kd.int .i64) 3 w' w.heap.size (fun k_ => some k_ ≠ (v2_ : Value).ownBlock ∧ some k_ ≠ (v3_ : Value).ownBlock ∧ some k_ ≠ (v5_ : Value).ownBlock) v6_ r7 ∧ Below w.heap.size w w' := by
 have hu27 := Try.underlying27
 have HR0 := Aside0.mk hr0
 have HC0 := Aside0.mk hc0
 clear hr0 hc0
 have HB := Aside0.mk (Below.refl w.heap.size w)
 have H : ((spec_l1New.f k l0).bind fun bt333 => ((spec_l4Draw.f k bt333.1 bt333.2.1 bt333.2.2).bind fun bt337 => ((spec_Reach.f k bt337.1 bt337.2.1 bt337.2.2.1 0 3).bind fun t345 => ((spec_l1Below.f bt333.1 bt337.2.2.2.1 bt337.2.2.2.2 (t345.length : Int)).bind fun bt348 => (if 0 ≤ bt348.1 then (if bt348.1 < (t345.length : Int) then ((spec_l1Below.f bt333.1 bt348.2.1 bt348.2.2 3).bind fun bt358 => (spec_DrawPlacesAfter.l0 k (rd t345 bt348.1) (([] : List Int)) (([] : List Int)) bt358.1 bt333.1 bt358.2.1 bt358.2.2 bt337.1 bt337.2.1 bt337.2.2.1)) else (none)) else (none)))))) = some (r1, r2, r3, r4, r5, r6, r7) := h
 clear h
 replace H := Option.bind_eq_some_iff.mp H
 obtain ⟨⟨t333, t334, t335⟩, A20, H⟩ := H
 dsimp only at H
 have A2 := Aside0.mk A20
 clear A20
 replace H := Option.bind_eq_some_iff.mp H
 obtain ⟨⟨t337, t338, t339, t342, t343⟩, A30, H⟩ := H
 dsimp only at H
 have A3 := Aside0.mk A30
 clear A30
 replace H := Option.bind_eq_some_iff.mp H
 obtain ⟨t345, A40, H⟩ := H
 have A4 := Aside0.mk A40
 clear A40
 replace H := Option.bind_eq_some_iff.mp H
 obtain ⟨⟨t348, t349, t350⟩, A50, H⟩ := H
 dsimp only at H
 have A5 := Aside0.mk A50
 clear A50
 by_cases c6 : 0 ≤ t348
 rotate_left
 · rw [if_neg c6] at H
   exact absurd H (by simp)
 rw [if_pos c6] at H
 have c6b0 : decide (0 ≤ t348) = true := decide_eq_true c6
 clear c6
 by_cases c7 : t348 < (t345.length : Int)
 rotate_left
 · rw [if_neg c7] at H
   exact absurd H (by simp)
 rw [if_pos c7] at H
 have c7b0 : decide (t348 < (t345.length : Int)) = true := decide_eq_true c7
 clear c7
 obtain ⟨y352, hy352⟩ : ∃ y_ : List Int, y_ = (([] : List Int)) := ⟨_, rfl⟩
 replace H : ((spec_l1Below.f t333 t349 t350 3).bind fun bt358 => (spec_DrawPlacesAfter.l0 k (rd t345 t348) y352 (([] : List Int)) bt358.1 t333 bt358.2.1 bt358.2.2 t337 t338 t339)) = some (r1, r2, r3, r4, r5, r6, r7) := by first | (rw [hy352]; with_reducible exact H) | (have H2_ := (Option.bind_some _ _).symm.trans H; rw [hy352]; with_reducible exact H2_) | (have H2_ := (Option.bind_some _ _).symm.trans H; with_reducible exact H2_) | with_reducible exact H | (rw [hy352]; exact H) | exact H
 have Ny352 := Aside0.mk hy352
 clear hy352
 obtain ⟨y355, hy355⟩ : ∃ y_ : List Int, y_ = (([] : List Int)) := ⟨_, rfl⟩
 replace H : ((spec_l1Below.f t333 t349 t350 3).bind fun bt358 => (spec_DrawPlacesAfter.l0 k (rd t345 t348) y352 y355 bt358.1 t333 bt358.2.1 bt358.2.2 t337 t338 t339)) = some (r1, r2, r3, r4, r5, r6, r7) := by first | (rw [hy355]; with_reducible exact H) | (have H2_ := (Option.bind_some _ _).symm.trans H; rw [hy355]; with_reducible exact H2_) | (have H2_ := (Option.bind_some _ _).symm.trans H; with_reducible exact H2_) | with_reducible exact H | (rw [hy355]; exact H) | exact H
 have Ny355 := Aside0.mk hy355
 clear hy355
 replace H := Option.bind_eq_some_iff.mp H
 obtain ⟨⟨t358, t359, t360⟩, A80, H⟩ := H
 dsimp only at H
 have A8 := Aside0.mk A80
 clear A80
 have H' := Aside0.mk H
 clear H
 go_enter Try.func20, Try.ntmps20
 go_wp2_with (first | ((with_reducible refine gate_dst (N := 2) rfl ?_); refine box_event ?hg (N := 2) ?hd (cs := #[.int .i64 0, .int .i64 0, .slice none 0 0]) (t := 27) ?hr ?_; (case hd => rfl); (case hg => rfl); (case hr => first | (go_simp; done) | (go_simp; rfl)); intro gb332 hg w9 hbox hb; have n0_ := Aside0.mk (below_step (below_up HB.out) hb); have n1_ := Aside0.mk (hbox); have n2_ := Aside0.mk ((by rw [hg]; exact (below_size (below_up HB.out)) : w.heap.size ≤ gb332)); have n3_ := Aside0.mk ((by rw [hg]; exact (below_size (below_up HB.out)) : w.heap.size ≤ gb332)); clear HB; have HB := n0_; have BK332 := n1_; have GW332 := n2_; have GE332 := n3_; clear n0_ n1_ n2_ n3_; clear hb hbox hg) | ((with_reducible refine gate_callee (f := 45) rfl ?_); refine goesL_ (some 16) rfl rfl Try.func45 (by kernel_rfl) rfl #[.slice A0 l0.length c0] rfl (by (try simp only [List.map_toArray, List.map_cons, List.map_nil]); first | done | rfl | (simp only [List.length_drop, List.length_take]; rfl)) ?_; (with_reducible refine (spec_l1New.calls k _ _ l0 t333 t334 t335 w _ ?side1 ?side2 ?side3 A2.out).mono ?_); (case side1 => repeat (first | (with_reducible first | exact HB.out | apply below_alloc | apply pw_below_drewN | apply below_drew1 | refine below_set ?_ GE332.out) | exact HB.out)); (case side2 => exact HR0.out); (case side3 => exact HC0.out); rintro e w10 ⟨g336, rfl, hi, hb, hb2⟩; refine ⟨_, rfl, ?_⟩; have n0_ := Aside0.mk (blk_below (g := gb332) (o := .cells #[.int .i64 0, .int .i64 0, .slice none 0 0] 27 (0, 0)) (blk_up BK332.out) hb2); have n1_ := Aside0.mk (hb); have n2_ := Aside0.mk (hi); have n3_ := Aside0.mk (IsS87.ne_blk hi (blk_below (g := gb332) (o := .cells #[.int .i64 0, .int .i64 0, .slice none 0 0] 27 (0, 0)) (blk_up BK332.out) hb2) (by decide)); have n4_ := Aside0.mk (Ne.symm (IsS87.ne_blk hi (blk_below (g := gb332) (o := .cells #[.int .i64 0, .int .i64 0, .slice none 0 0] 27 (0, 0)) (blk_up BK332.out) hb2) (by decide))); clear BK332; clear HB; have BK332 := n0_; have HB := n1_; have HI336 := n2_; have NB336_332 := n3_; have NB332_336 := n4_; clear n0_ n1_ n2_ n3_ n4_; (try clear hb); (try clear hb2); (try clear hk); (try clear hi)) | ((with_reducible refine gate_callee (f := 46) rfl ?_); refine goesL_ (some 18) rfl rfl Try.func46 (by kernel_rfl) rfl #[.pointer (some ⟨g336, 0, none⟩)] rfl (by (try simp only [List.map_toArray, List.map_cons, List.map_nil]); first | done | rfl | (simp only [List.length_drop, List.length_take]; rfl)) ?_; (with_reducible refine (spec_l4Draw.calls k g336 t333 t334 t335 t337 t338 t339 t342 t343 w _ ?side1 ?side2 A3.out).mono ?_); (case side1 => repeat (first | (with_reducible first | exact HI336.out | apply IsS87.alloc | apply IsS87.drewN | apply IsS87.drew | apply IsS87.set_1 | apply IsS87.set_2 | refine IsS87.far ?_ NB336_332.out _) | exact HI336.out)); (case side2 => repeat (first | (with_reducible first | exact HB.out | apply below_alloc | apply pw_below_drewN | apply below_drew1 | refine below_set ?_ (IsS87.ge HI336.out) | refine below_set ?_ GE332.out) | exact HB.out)); rintro e w11 ⟨v340, rfl, ho0, hi, hb, hk⟩; refine ⟨_, rfl, ?_⟩; have n0_ := Aside0.mk (KeepBut.blk hk (g' := gb332) (o := .cells #[.int .i64 0, .int .i64 0, .slice none 0 0] 27 (0, 0)) (blk_up BK332.out) NB332_336.out (by simp)); have n1_ := Aside0.mk (Kd.R_lower ho0 (below_size (by repeat (first | (with_reducible first | exact HB.out | apply below_alloc | apply pw_below_drewN | apply below_drew1 | refine below_set ?_ (IsS87.ge HI336.out) | refine below_set ?_ GE332.out) | exact HB.out)))); have n2_ := Aside0.mk (hb); have n3_ := Aside0.mk (hi); clear BK332; clear HB; clear HI336; have BK332 := n0_; have HO341 := n1_; have HB := n2_; have HI336 := n3_; clear n0_ n1_ n2_ n3_; (try clear hb); (try clear hb2); (try clear hk); (try clear hi); (try clear ho0)) | ((with_reducible refine gate_dst (N := 8) rfl ?_); refine box_event ?hg (N := 8) ?hd (cs := #[.int .i64 0, .int .i64 0, .slice none 0 0]) (t := 27) ?hr ?_; (case hd => rfl); (case hg => rfl); (case hr => first | (go_simp; done) | (go_simp; rfl)); intro gb344 hg w12 hbox hb; have n0_ := Aside0.mk (Kd.R_below (Kd.R_up HO341.out) hb); have n1_ := Aside0.mk (blk_below (g := gb332) (o := .cells #[.int .i64 0, .int .i64 0, .slice none 0 0] 27 (0, 0)) (blk_up BK332.out) hb); have n2_ := Aside0.mk (IsS87.below (by repeat (first | (with_reducible first | exact HI336.out | apply IsS87.alloc | apply IsS87.drewN | apply IsS87.drew | apply IsS87.set_1 | apply IsS87.set_2 | refine IsS87.far ?_ NB336_332.out _) | exact HI336.out)) hb); have n3_ := Aside0.mk (below_step (by repeat (first | (with_reducible first | exact HB.out | apply below_alloc | apply pw_below_drewN | apply below_drew1 | refine below_set ?_ (IsS87.ge HI336.out) | refine below_set ?_ GE332.out) | exact HB.out)) hb); have n4_ := Aside0.mk (hbox); have n5_ := Aside0.mk ((by rw [hg]; exact (below_size (by repeat (first | (with_reducible first | exact HB.out | apply below_alloc | apply pw_below_drewN | apply below_drew1 | refine below_set ?_ (IsS87.ge HI336.out) | refine below_set ?_ GE332.out) | exact HB.out))) : w.heap.size ≤ gb344)); have n6_ := Aside0.mk ((by rw [hg]; exact (below_size (by repeat (first | (with_reducible first | exact HB.out | apply below_alloc | apply pw_below_drewN | apply below_drew1 | refine below_set ?_ (IsS87.ge HI336.out) | refine below_set ?_ GE332.out) | exact HB.out))) : w.heap.size ≤ gb344)); have n7_ := Aside0.mk ((by rw [hg]; exact Nat.ne_of_lt (blk_lt (g := gb332) (o := .cells #[.int .i64 0, .int .i64 0, .slice none 0 0] 27 (0, 0)) (by (with_reducible repeat (first | refine blk_drewN ?_ _ | refine blk_drew ?_ | refine blk_alloc ?_ _)); exact BK332.out)) : gb332 ≠ gb344)); have n8_ := Aside0.mk ((by rw [hg]; exact Nat.ne_of_gt (blk_lt (g := gb332) (o := .cells #[.int .i64 0, .int .i64 0, .slice none 0 0] 27 (0, 0)) (by (with_reducible repeat (first | refine blk_drewN ?_ _ | refine blk_drew ?_ | refine blk_alloc ?_ _)); exact BK332.out)) : gb344 ≠ gb332)); have n9_ := Aside0.mk ((by rw [hg]; exact Nat.ne_of_lt (IsS87.lt (show IsS87 w _ g336 t333 t342 t343 from by repeat (first | (with_reducible first | exact HI336.out | apply IsS87.alloc | apply IsS87.drewN | apply IsS87.drew | apply IsS87.set_1 | apply IsS87.set_2 | refine IsS87.far ?_ NB336_332.out _) | exact HI336.out))) : g336 ≠ gb344)); have n10_ := Aside0.mk ((by rw [hg]; exact Nat.ne_of_gt (IsS87.lt (show IsS87 w _ g336 t333 t342 t343 from by repeat (first | (with_reducible first | exact HI336.out | apply IsS87.alloc | apply IsS87.drewN | apply IsS87.drew | apply IsS87.set_1 | apply IsS87.set_2 | refine IsS87.far ?_ NB336_332.out _) | exact HI336.out))) : gb344 ≠ g336)); clear HO341; clear BK332; clear HI336; clear HB; have HO341 := n0_; have BK332 := n1_; have HI336 := n2_; have HB := n3_; have BK344 := n4_; have GW344 := n5_; have GE344 := n6_; have NB332_344 := n7_; have NB344_332 := n8_; have NB336_344 := n9_; have NB344_336 := n10_; clear n0_ n1_ n2_ n3_ n4_ n5_ n6_ n7_ n8_ n9_ n10_; clear hb hbox hg; have hnb13 := NB344_332.out; have hnc13 := NB332_344.out; have hnb14 := NB344_336.out; have hnc14 := NB336_344.out; have hcz15_0 : w12.cell? ⟨gb344, 0, none⟩ = some (.int .i64 0) := (blk_cell BK344.out 0).trans rfl; have hcz15_1 : w12.cell? ⟨gb344, 1, none⟩ = some (.int .i64 0) := (blk_cell BK344.out 1).trans rfl; have hcz15_2 : w12.cell? ⟨gb344, 2, none⟩ = some (.slice none 0 0) := (blk_cell BK344.out 2).trans rfl; have hfz15_0 := blk_frozen BK344.out 0; have hfz15_1 := blk_frozen BK344.out 1; have hfz15_2 := blk_frozen BK344.out 2; obtain ⟨Ao16, co16, eo16⟩ := Kd.R_slice HO341.out; subst eo16) | ((with_reducible refine gate_callee (f := 47) rfl ?_); refine goesL_ (some 20) rfl rfl Try.func47 (by kernel_rfl) rfl #[.agg #[.int .i64 t337, .int .i64 t338, .slice Ao16 t339.length co16], .int .i64 0, .int .i64 3] rfl (by (try simp only [List.map_toArray, List.map_cons, List.map_nil]); first | done | rfl | (simp only [List.length_drop, List.length_take]; rfl)) ?_; (with_reducible refine (spec_Reach.calls k t337 t338 _ _ t339 0 3 t345 _ ?side1 ?side2 A4.out).mono ?_); (case side1 => refine (Kd.R_reads' (e := 3) (base := w.heap.size) (ok := fun k_ => True) (n := t339.length) (c := co16) ?_).2.2; exact (by (with_reducible repeat (first | apply Kd.R_alloc | apply Kd.R_drewN | apply Kd.R_drew)); exact (Kd.R_mono (Kd.R_far (p := ⟨gb344, 2, none⟩) (Kd.R_far (p := ⟨gb344, 1, none⟩) (Kd.R_far (p := ⟨gb344, 0, none⟩) (Kd.R_types HO341.out BK344.out (by decide)) (fun _ hk => hk.2) (.int .i64 t337)) (fun _ hk => hk.2) (.int .i64 t338)) (fun _ hk => hk.2) (.slice Ao16 t339.length co16)) (fun _ h_ => h_.1)))); (case side2 => exact (Kd.R_reads' HO341.out).2.1); rintro e w17 ⟨v346, rfl, ho0, hb⟩; refine ⟨_, rfl, ?_⟩; have n0_ := Aside0.mk (Kd.R_elder' (by (with_reducible repeat (first | apply Kd.R_alloc | apply Kd.R_drewN | apply Kd.R_drew)); exact (Kd.R_mono (Kd.R_far (p := ⟨gb344, 2, none⟩) (Kd.R_far (p := ⟨gb344, 1, none⟩) (Kd.R_far (p := ⟨gb344, 0, none⟩) (Kd.R_types HO341.out BK344.out (by decide)) (fun _ hk => hk.2) (.int .i64 t337)) (fun _ hk => hk.2) (.int .i64 t338)) (fun _ hk => hk.2) (.slice Ao16 t339.length co16)) (fun _ h_ => h_.1))) (Kd.R_base ho0) hb); have n1_ := Aside0.mk (Kd.R_lower (Kd.R_new' ho0 (Kd.R_lt (by (with_reducible repeat (first | apply Kd.R_alloc | apply Kd.R_drewN | apply Kd.R_drew)); exact (Kd.R_mono (Kd.R_far (p := ⟨gb344, 2, none⟩) (Kd.R_far (p := ⟨gb344, 1, none⟩) (Kd.R_far (p := ⟨gb344, 0, none⟩) (Kd.R_types HO341.out BK344.out (by decide)) (fun _ hk => hk.2) (.int .i64 t337)) (fun _ hk => hk.2) (.int .i64 t338)) (fun _ hk => hk.2) (.slice Ao16 t339.length co16)) (fun _ h_ => h_.1))))) (below_size (by repeat (first | (with_reducible first | exact HB.out | apply below_alloc | apply pw_below_drewN | apply below_drew1 | refine below_set ?_ (IsS87.ge HI336.out) | refine below_set ?_ GE332.out | refine below_set ?_ GE344.out) | exact HB.out)))); have n2_ := Aside0.mk (blk_below (g := gb332) (o := .cells #[.int .i64 0, .int .i64 0, .slice none 0 0] 27 (0, 0)) (by (with_reducible repeat (first | refine blk_drewN ?_ _ | refine blk_drew ?_ | refine blk_alloc ?_ _)); refine blk_far ?_ NB332_344.out _; (with_reducible repeat (first | refine blk_drewN ?_ _ | refine blk_drew ?_ | refine blk_alloc ?_ _)); refine blk_far ?_ NB332_344.out _; (with_reducible repeat (first | refine blk_drewN ?_ _ | refine blk_drew ?_ | refine blk_alloc ?_ _)); refine blk_far ?_ NB332_344.out _; (with_reducible repeat (first | refine blk_drewN ?_ _ | refine blk_drew ?_ | refine blk_alloc ?_ _)); exact BK332.out) hb); have n3_ := Aside0.mk (IsS87.below (show IsS87 w (((w12.setCell ⟨gb344, 0, none⟩ (.int .i64 t337)).setCell ⟨gb344, 1, none⟩ (.int .i64 t338)).setCell ⟨gb344, 2, none⟩ (.slice Ao16 t339.length co16)) g336 t333 t342 t343 from by repeat (first | (with_reducible first | exact HI336.out | apply IsS87.alloc | apply IsS87.drewN | apply IsS87.drew | apply IsS87.set_1 | apply IsS87.set_2 | refine IsS87.far ?_ NB336_332.out _ | refine IsS87.far ?_ NB336_344.out _) | exact HI336.out)) hb); have n4_ := Aside0.mk (blk_below (g := gb344) (o := .cells #[.int .i64 t337, .int .i64 t338, .slice Ao16 t339.length co16] 27 (0, 0)) (by (with_reducible repeat (first | refine blk_drewN ?_ _ | refine blk_drew ?_ | refine blk_alloc ?_ _)); refine blk_put (cs := #[.int .i64 t337, .int .i64 t338, .slice none 0 0]) ?_ 2 _ rfl; (with_reducible repeat (first | refine blk_drewN ?_ _ | refine blk_drew ?_ | refine blk_alloc ?_ _)); refine blk_put (cs := #[.int .i64 t337, .int .i64 0, .slice none 0 0]) ?_ 1 _ rfl; (with_reducible repeat (first | refine blk_drewN ?_ _ | refine blk_drew ?_ | refine blk_alloc ?_ _)); refine blk_put (cs := #[.int .i64 0, .int .i64 0, .slice none 0 0]) ?_ 0 _ rfl; (with_reducible repeat (first | refine blk_drewN ?_ _ | refine blk_drew ?_ | refine blk_alloc ?_ _)); exact BK344.out) hb); have n5_ := Aside0.mk (below_step (by repeat (first | (with_reducible first | exact HB.out | apply below_alloc | apply pw_below_drewN | apply below_drew1 | refine below_set ?_ (IsS87.ge HI336.out) | refine below_set ?_ GE332.out | refine below_set ?_ GE344.out) | exact HB.out)) hb); clear HO341; clear BK332; clear HI336; clear BK344; clear HB; have HO341 := n0_; have HO347 := n1_; have BK332 := n2_; have HI336 := n3_; have BK344 := n4_; have HB := n5_; clear n0_ n1_ n2_ n3_ n4_ n5_; (try clear hb); (try clear hb2); (try clear hk); (try clear hi); (try clear ho0); obtain ⟨Ao18, co18, eo18⟩ := Kd.R_slice HO347.out; subst eo18) | ((with_reducible refine gate_callee (f := 48) rfl ?_); refine goesL_ (some 25) rfl rfl Try.func48 (by kernel_rfl) rfl #[.pointer (some ⟨g336, 0, none⟩), .int .i64 (t345.length : Int)] rfl (by (try simp only [List.map_toArray, List.map_cons, List.map_nil]); first | done | rfl | (simp only [List.length_drop, List.length_take]; rfl)) ?_; (with_reducible refine (spec_l1Below.calls g336 t333 t342 t343 (t345.length : Int) t348 t349 t350 w _ ?side1 ?side2 A5.out).mono ?_); (case side1 => repeat (first | (with_reducible first | exact HI336.out | apply IsS87.alloc | apply IsS87.drewN | apply IsS87.drew | apply IsS87.set_1 | apply IsS87.set_2 | refine IsS87.far ?_ NB336_332.out _ | refine IsS87.far ?_ NB336_344.out _) | exact HI336.out)); (case side2 => repeat (first | (with_reducible first | exact HB.out | apply below_alloc | apply pw_below_drewN | apply below_drew1 | refine below_set ?_ (IsS87.ge HI336.out) | refine below_set ?_ GE332.out | refine below_set ?_ GE344.out) | exact HB.out)); rintro e w19 ⟨rfl, hi, hb, hk⟩; refine ⟨_, rfl, ?_⟩; have n0_ := Aside0.mk (KeepBut.blk hk (g' := gb332) (o := .cells #[.int .i64 0, .int .i64 0, .slice none 0 0] 27 (0, 0)) (blk_up BK332.out) NB332_336.out (by simp)); have n1_ := Aside0.mk (Kd.R_mono (Kd.R_keep (IsS87.apart (show IsS87 w _ g336 t333 t342 t343 from by repeat (first | (with_reducible first | exact HI336.out | apply IsS87.alloc | apply IsS87.drewN | apply IsS87.drew | apply IsS87.set_1 | apply IsS87.set_2 | refine IsS87.far ?_ NB336_332.out _ | refine IsS87.far ?_ NB336_344.out _) | exact HI336.out)) (Kd.R_up HO341.out) (by decide)) hk (fun _ h => h.2)) (fun _ h => h.1)); have n2_ := Aside0.mk (KeepBut.blk hk (g' := gb344) (o := .cells #[.int .i64 t337, .int .i64 t338, .slice Ao16 t339.length co16] 27 (0, 0)) (blk_up BK344.out) NB344_336.out (by simp)); have n3_ := Aside0.mk (Kd.R_mono (Kd.R_keep (IsS87.apart (show IsS87 w _ g336 t333 t342 t343 from by repeat (first | (with_reducible first | exact HI336.out | apply IsS87.alloc | apply IsS87.drewN | apply IsS87.drew | apply IsS87.set_1 | apply IsS87.set_2 | refine IsS87.far ?_ NB336_332.out _ | refine IsS87.far ?_ NB336_344.out _) | exact HI336.out)) (Kd.R_up HO347.out) (by decide)) hk (fun _ h => h.2)) (fun _ h => h.1)); have n4_ := Aside0.mk (hb); have n5_ := Aside0.mk (hi); clear BK332; clear HO341; clear BK344; clear HO347; clear HB; clear HI336; have BK332 := n0_; have HO341 := n1_; have BK344 := n2_; have HO347 := n3_; have HB := n4_; have HI336 := n5_; clear n0_ n1_ n2_ n3_ n4_ n5_; (try clear hb); (try clear hb2); (try clear hk); (try clear hi); have p351 : 0 ≤ (t348 : Int) := of_decide_eq_true (by first | (with_reducible assumption) | assumption); have q351 : t348 < (t345.length : Int) := of_decide_eq_true (by first | (with_reducible assumption) | assumption); obtain ⟨ad351, e351, hx351_0⟩ := Kd.at_int (Kd.R_reads' HO347.out).2.2 t348 p351 q351; cases e351; replace p351 := eq_true p351; replace q351 := eq_true q351) | ((with_reducible refine gate_dst (N := 28) rfl ?_); refine Kd.R_lit (Kd.int .i64) _ 3 ?hg (N := 28) ?hd (xs := ([] : List Int)) (inner := []) (ok := fun _ => True) (okp := fun _ => True) ?hr ?hp (fun _ hk => hk) trivial (Below.refl _ _) (Nat.le_refl _) (by simp) ?_; (case hd => rfl); (case hg => rfl); (case hr => first | (go_simp; done) | (go_simp; rfl)); (case hp => exact (Reps.none _ _)); intro v353 w20 ho21 hb hg_ hnew_; clear hg_ hnew_; (first | rw [← Ny352.out] at ho21 | (simp only [Int.reduceToNat] at ho21; rw [← Ny352.out] at ho21)); have n0_ := Aside0.mk (Kd.R_elder' (Kd.R_up HO341.out) (Kd.R_base ho21) hb); have n1_ := Aside0.mk (Kd.R_elder' (Kd.R_up HO347.out) (Kd.R_base ho21) hb); have n2_ := Aside0.mk (Kd.R_lower (Kd.R_new' (Kd.R_new' ho21 (Kd.R_lt (Kd.R_up HO341.out))) (Kd.R_lt (Kd.R_up HO347.out))) (below_size (by repeat (first | (with_reducible first | exact HB.out | apply below_alloc | apply pw_below_drewN | apply below_drew1 | refine below_set ?_ (IsS87.ge HI336.out) | refine below_set ?_ GE332.out | refine below_set ?_ GE344.out) | exact HB.out)))); have n3_ := Aside0.mk (blk_below (g := gb332) (o := .cells #[.int .i64 0, .int .i64 0, .slice none 0 0] 27 (0, 0)) (blk_up BK332.out) hb); have n4_ := Aside0.mk (IsS87.below (by repeat (first | (with_reducible first | exact HI336.out | apply IsS87.alloc | apply IsS87.drewN | apply IsS87.drew | apply IsS87.set_1 | apply IsS87.set_2 | refine IsS87.far ?_ NB336_332.out _ | refine IsS87.far ?_ NB336_344.out _) | exact HI336.out)) hb); have n5_ := Aside0.mk (blk_below (g := gb344) (o := .cells #[.int .i64 t337, .int .i64 t338, .slice Ao16 t339.length co16] 27 (0, 0)) (blk_up BK344.out) hb); have n6_ := Aside0.mk (below_step (by repeat (first | (with_reducible first | exact HB.out | apply below_alloc | apply pw_below_drewN | apply below_drew1 | refine below_set ?_ (IsS87.ge HI336.out) | refine below_set ?_ GE332.out | refine below_set ?_ GE344.out) | exact HB.out)) hb); clear HO341; clear HO347; clear BK332; clear HI336; clear BK344; clear HB; have HO341 := n0_; have HO347 := n1_; have HO354 := n2_; have BK332 := n3_; have HI336 := n4_; have BK344 := n5_; have HB := n6_; clear n0_ n1_ n2_ n3_ n4_ n5_ n6_; clear hb ho21) | ((with_reducible refine gate_dst (N := 29) rfl ?_); refine Kd.R_lit (Kd.int .i64) _ 3 ?hg (N := 29) ?hd (xs := ([] : List Int)) (inner := []) (ok := fun _ => True) (okp := fun _ => True) ?hr ?hp (fun _ hk => hk) trivial (Below.refl _ _) (Nat.le_refl _) (by simp) ?_; (case hd => rfl); (case hg => rfl); (case hr => first | (go_simp; done) | (go_simp; rfl)); (case hp => exact (Reps.none _ _)); intro v356 w22 ho23 hb hg_ hnew_; clear hg_ hnew_; (first | rw [← Ny355.out] at ho23 | (simp only [Int.reduceToNat] at ho23; rw [← Ny355.out] at ho23)); have n0_ := Aside0.mk (Kd.R_elder' (Kd.R_up HO341.out) (Kd.R_base ho23) hb); have n1_ := Aside0.mk (Kd.R_elder' (Kd.R_up HO347.out) (Kd.R_base ho23) hb); have n2_ := Aside0.mk (Kd.R_elder' (Kd.R_up HO354.out) (Kd.R_base ho23) hb); have n3_ := Aside0.mk (Kd.R_lower (Kd.R_new' (Kd.R_new' (Kd.R_new' ho23 (Kd.R_lt (Kd.R_up HO341.out))) (Kd.R_lt (Kd.R_up HO347.out))) (Kd.R_lt (Kd.R_up HO354.out))) (below_size (by repeat (first | (with_reducible first | exact HB.out | apply below_alloc | apply pw_below_drewN | apply below_drew1 | refine below_set ?_ (IsS87.ge HI336.out) | refine below_set ?_ GE332.out | refine below_set ?_ GE344.out) | exact HB.out)))); have n4_ := Aside0.mk (blk_below (g := gb332) (o := .cells #[.int .i64 0, .int .i64 0, .slice none 0 0] 27 (0, 0)) (blk_up BK332.out) hb); have n5_ := Aside0.mk (IsS87.below (by repeat (first | (with_reducible first | exact HI336.out | apply IsS87.alloc | apply IsS87.drewN | apply IsS87.drew | apply IsS87.set_1 | apply IsS87.set_2 | refine IsS87.far ?_ NB336_332.out _ | refine IsS87.far ?_ NB336_344.out _) | exact HI336.out)) hb); have n6_ := Aside0.mk (blk_below (g := gb344) (o := .cells #[.int .i64 t337, .int .i64 t338, .slice Ao16 t339.length co16] 27 (0, 0)) (blk_up BK344.out) hb); have n7_ := Aside0.mk (below_step (by repeat (first | (with_reducible first | exact HB.out | apply below_alloc | apply pw_below_drewN | apply below_drew1 | refine below_set ?_ (IsS87.ge HI336.out) | refine below_set ?_ GE332.out | refine below_set ?_ GE344.out) | exact HB.out)) hb); clear HO341; clear HO347; clear HO354; clear BK332; clear HI336; clear BK344; clear HB; have HO341 := n0_; have HO347 := n1_; have HO354 := n2_; have HO357 := n3_; have BK332 := n4_; have HI336 := n5_; have BK344 := n6_; have HB := n7_; clear n0_ n1_ n2_ n3_ n4_ n5_ n6_ n7_; clear hb ho23) | ((with_reducible refine gate_callee (f := 48) rfl ?_); refine goesL_ (some 31) rfl rfl Try.func48 (by kernel_rfl) rfl #[.pointer (some ⟨g336, 0, none⟩), .int .i64 3] rfl (by (try simp only [List.map_toArray, List.map_cons, List.map_nil]); first | done | rfl | (simp only [List.length_drop, List.length_take]; rfl)) ?_; (with_reducible refine (spec_l1Below.calls g336 t333 t349 t350 3 t358 t359 t360 w _ ?side1 ?side2 A8.out).mono ?_); (case side1 => repeat (first | (with_reducible first | exact HI336.out | apply IsS87.alloc | apply IsS87.drewN | apply IsS87.drew | apply IsS87.set_1 | apply IsS87.set_2 | refine IsS87.far ?_ NB336_332.out _ | refine IsS87.far ?_ NB336_344.out _) | exact HI336.out)); (case side2 => repeat (first | (with_reducible first | exact HB.out | apply below_alloc | apply pw_below_drewN | apply below_drew1 | refine below_set ?_ (IsS87.ge HI336.out) | refine below_set ?_ GE332.out | refine below_set ?_ GE344.out) | exact HB.out)); rintro e w24 ⟨rfl, hi, hb, hk⟩; refine ⟨_, rfl, ?_⟩; have n0_ := Aside0.mk (KeepBut.blk hk (g' := gb332) (o := .cells #[.int .i64 0, .int .i64 0, .slice none 0 0] 27 (0, 0)) (blk_up BK332.out) NB332_336.out (by simp)); have n1_ := Aside0.mk (Kd.R_mono (Kd.R_keep (IsS87.apart (show IsS87 w _ g336 t333 t349 t350 from by repeat (first | (with_reducible first | exact HI336.out | apply IsS87.alloc | apply IsS87.drewN | apply IsS87.drew | apply IsS87.set_1 | apply IsS87.set_2 | refine IsS87.far ?_ NB336_332.out _ | refine IsS87.far ?_ NB336_344.out _) | exact HI336.out)) (Kd.R_up HO341.out) (by decide)) hk (fun _ h => h.2)) (fun _ h => h.1)); have n2_ := Aside0.mk (KeepBut.blk hk (g' := gb344) (o := .cells #[.int .i64 t337, .int .i64 t338, .slice Ao16 t339.length co16] 27 (0, 0)) (blk_up BK344.out) NB344_336.out (by simp)); have n3_ := Aside0.mk (Kd.R_mono (Kd.R_keep (IsS87.apart (show IsS87 w _ g336 t333 t349 t350 from by repeat (first | (with_reducible first | exact HI336.out | apply IsS87.alloc | apply IsS87.drewN | apply IsS87.drew | apply IsS87.set_1 | apply IsS87.set_2 | refine IsS87.far ?_ NB336_332.out _ | refine IsS87.far ?_ NB336_344.out _) | exact HI336.out)) (Kd.R_up HO347.out) (by decide)) hk (fun _ h => h.2)) (fun _ h => h.1)); have n4_ := Aside0.mk (Kd.R_mono (Kd.R_keep (IsS87.apart (show IsS87 w _ g336 t333 t349 t350 from by repeat (first | (with_reducible first | exact HI336.out | apply IsS87.alloc | apply IsS87.drewN | apply IsS87.drew | apply IsS87.set_1 | apply IsS87.set_2 | refine IsS87.far ?_ NB336_332.out _ | refine IsS87.far ?_ NB336_344.out _) | exact HI336.out)) (Kd.R_up HO354.out) (by decide)) hk (fun _ h => h.2)) (fun _ h => h.1)); have n5_ := Aside0.mk (Kd.R_mono (Kd.R_keep (IsS87.apart (show IsS87 w _ g336 t333 t349 t350 from by repeat (first | (with_reducible first | exact HI336.out | apply IsS87.alloc | apply IsS87.drewN | apply IsS87.drew | apply IsS87.set_1 | apply IsS87.set_2 | refine IsS87.far ?_ NB336_332.out _ | refine IsS87.far ?_ NB336_344.out _) | exact HI336.out)) (Kd.R_up HO357.out) (by decide)) hk (fun _ h => h.2)) (fun _ h => h.1)); have n6_ := Aside0.mk (hb); have n7_ := Aside0.mk (hi); clear BK332; clear HO341; clear BK344; clear HO347; clear HO354; clear HO357; clear HB; clear HI336; have BK332 := n0_; have HO341 := n1_; have BK344 := n2_; have HO347 := n3_; have HO354 := n4_; have HO357 := n5_; have HB := n6_; have HI336 := n7_; clear n0_ n1_ n2_ n3_ n4_ n5_ n6_ n7_; (try clear hb); (try clear hb2); (try clear hk); (try clear hi)))
 go_loopg [11, 12, 13] k (fun kq v11 v12 v13 w' => ∃ (x11_1 : List Int) (x12_1 : List Int) (x13_1 : Int) (x337001_1 : Int) (x337002_1 : Int), v13 = .int .i64 x13_1 ∧ Aside0 (spec_DrawPlacesAfter.l0 kq (rd t345 t348) x11_1 x12_1 x13_1 t333 x337001_1 x337002_1 t337 t338 t339 = some (r1, r2, r3, r4, r5, r6, r7)) ∧ Aside0 (kq ≤ k) ∧ Aside0 (Kd.R (Kd.int .i64) 3 w' w.heap.size (fun k_ => some k_ ≠ (v12 : Value).ownBlock ∧ some k_ ≠ ((.slice Ao16 t339.length co16) : Value).ownBlock) v11 x11_1) ∧ Aside0 (Kd.R (Kd.int .i64) 3 w' w.heap.size (fun k_ => some k_ ≠ (v11 : Value).ownBlock ∧ some k_ ≠ ((.slice Ao16 t339.length co16) : Value).ownBlock) v12 x12_1) ∧ Aside0 (Kd.R (Kd.int .i64) 3 w' w.heap.size (fun k_ => some k_ ≠ (v11 : Value).ownBlock ∧ some k_ ≠ (v12 : Value).ownBlock) (.slice Ao16 t339.length co16) t339) ∧ Aside0 (w'.heap[gb332]? = some (.cells #[.int .i64 0, .int .i64 0, (.slice none 0 0)] 27 (0, 0))) ∧ Aside0 (w'.heap[gb344]? = some (.cells #[.int .i64 t337, .int .i64 t338, (.slice Ao16 t339.length co16)] 27 (0, 0))) ∧ Aside0 (IsS87 w w' g336 t333 x337001_1 x337002_1) ∧ Aside0 (Below w.heap.size w w'))
 case atStart => exact ⟨(y352), (y355), (t358), (t359), (t360), (by first | rfl | (simp; done) | (simp [*]; done)), H', ⟨Nat.le_refl _⟩, ⟨by (with_reducible repeat (first | apply Kd.R_alloc | apply Kd.R_drewN | apply Kd.R_drew)); exact Kd.R_mono HO354.out (fun _ hk => ⟨hk.2, hk.1.1.2⟩)⟩, ⟨by (with_reducible repeat (first | apply Kd.R_alloc | apply Kd.R_drewN | apply Kd.R_drew)); exact Kd.R_mono HO357.out (fun _ hk => ⟨hk.2, hk.1.1.2⟩)⟩, ⟨by (with_reducible repeat (first | apply Kd.R_alloc | apply Kd.R_drewN | apply Kd.R_drew)); exact Kd.R_mono HO341.out (fun _ hk => ⟨hk.1.2, hk.2⟩)⟩, ⟨by (with_reducible repeat (first | refine blk_drewN ?_ _ | refine blk_drew ?_ | refine blk_alloc ?_ _)); exact BK332.out⟩, ⟨by (with_reducible repeat (first | refine blk_drewN ?_ _ | refine blk_drew ?_ | refine blk_alloc ?_ _)); exact BK344.out⟩, ⟨by repeat (first | (with_reducible first | exact HI336.out | apply IsS87.alloc | apply IsS87.drewN | apply IsS87.drew | apply IsS87.set_1 | apply IsS87.set_2 | refine IsS87.far ?_ NB336_332.out _ | refine IsS87.far ?_ NB336_344.out _) | exact HI336.out)⟩, ⟨by repeat (first | (with_reducible first | exact HB.out | apply below_alloc | apply pw_below_drewN | apply below_drew1 | refine below_set ?_ (IsS87.ge HI336.out) | refine below_set ?_ GE332.out | refine below_set ?_ GE344.out) | exact HB.out)⟩⟩
 case round =>
  clear H'
  try clear c1
  try clear c2
  try clear p2
  try clear p3
  try clear q3
  try clear hx3
  try clear c4
  try clear c6
  try clear c6b0
  try clear c7
  try clear c7b0
  try clear c13
  try clear c14
  try clear c20
  try clear hcz15_0
  try clear hcz15_1
  try clear hcz15_2
  try clear hfz15_0
  try clear hfz15_1
  try clear hfz15_2
  try clear hx351_0
  try clear p351
  try clear q351
  obtain ⟨x11_1, x12_1, x13_1, x337001_1, x337002_1, rfl, HA, HK1, HO_11, HO_12, HO_345002, BK332, BK344, HI336, HB⟩ := hrel
  cases gk with
  | zero => exact absurd HA.out (by simp [spec_DrawPlacesAfter.l0])
  | succ k1 =>
   have H := HA.out
   clear HA
   simp only [spec_DrawPlacesAfter.l0] at H
   by_cases c25 : x13_1 > 0
   · rw [if_pos c25] at H
     have c25b0 : decide (0 < x13_1) = true := decide_eq_true c25
     clear c25
     replace H := Option.bind_eq_some_iff.mp H
     obtain ⟨⟨t361, t362, t363⟩, A260, H⟩ := H
     dsimp only at H
     have A26 := Aside0.mk A260
     clear A260
     by_cases c27 : x11_1.length < 17592186044416
     rotate_left
     · rw [if_neg c27] at H
       exact absurd H (by simp)
     rw [if_pos c27] at H
     have LMc27 := Aside0.mk c27
     clear c27
     obtain ⟨y364, hy364⟩ : ∃ y_ : List Int, y_ = (x11_1 ++ [t361]) := ⟨_, rfl⟩
     replace H : ((spec_Apart.f k1 t337 t338 t339 t361 (rd t345 t348)).bind fun t367 => (if x12_1.length < 17592186044416 then (spec_DrawPlacesAfter.l0 k1 (rd t345 t348) y364 (x12_1 ++ [t367]) (wrap64 (x13_1 - 1)) t333 t362 t363 t337 t338 t339) else (none))) = some (r1, r2, r3, r4, r5, r6, r7) := by first | (rw [hy364]; with_reducible exact H) | (have H2_ := (Option.bind_some _ _).symm.trans H; rw [hy364]; with_reducible exact H2_) | (have H2_ := (Option.bind_some _ _).symm.trans H; with_reducible exact H2_) | with_reducible exact H | (rw [hy364]; exact H) | exact H
     have Ny364 := Aside0.mk hy364
     clear hy364
     replace H := Option.bind_eq_some_iff.mp H
     obtain ⟨t367, A280, H⟩ := H
     have A28 := Aside0.mk A280
     clear A280
     by_cases c29 : x12_1.length < 17592186044416
     rotate_left
     · rw [if_neg c29] at H
       exact absurd H (by simp)
     rw [if_pos c29] at H
     have LMc29 := Aside0.mk c29
     clear c29
     obtain ⟨y368, hy368⟩ : ∃ y_ : List Int, y_ = (x12_1 ++ [t367]) := ⟨_, rfl⟩
     replace H : (spec_DrawPlacesAfter.l0 k1 (rd t345 t348) y364 y368 (wrap64 (x13_1 - 1)) t333 t362 t363 t337 t338 t339) = some (r1, r2, r3, r4, r5, r6, r7) := by first | (rw [hy368]; with_reducible exact H) | (have H2_ := (Option.bind_some _ _).symm.trans H; rw [hy368]; with_reducible exact H2_) | (have H2_ := (Option.bind_some _ _).symm.trans H; with_reducible exact H2_) | with_reducible exact H | (rw [hy368]; exact H) | exact H
     have Ny368 := Aside0.mk hy368
     clear hy368
     have H' := Aside0.mk H
     clear H
     have hnb30 := NB344_332.out
     have hnc30 := NB332_344.out
     have hnb31 := NB344_336.out
     have hnc31 := NB336_344.out
     have hcz32_0 : wr.cell? ⟨gb344, 0, none⟩ = some (.int .i64 t337) := (blk_cell BK344.out 0).trans rfl
     have hcz32_1 : wr.cell? ⟨gb344, 1, none⟩ = some (.int .i64 t338) := (blk_cell BK344.out 1).trans rfl
     have hcz32_2 : wr.cell? ⟨gb344, 2, none⟩ = some (.slice Ao16 t339.length co16) := (blk_cell BK344.out 2).trans rfl
     have hfz32_0 := blk_frozen BK344.out 0
     have hfz32_1 := blk_frozen BK344.out 1
     have hfz32_2 := blk_frozen BK344.out 2
     go_wp2_with (first | ((with_reducible refine gate_callee (f := 48) rfl ?_); refine goesL_ (some 40) rfl rfl Try.func48 (by kernel_rfl) rfl #[.pointer (some ⟨g336, 0, none⟩), .int .i64 (t339.length : Int)] rfl (by (try simp only [List.map_toArray, List.map_cons, List.map_nil]); first | done | rfl | (simp only [List.length_drop, List.length_take]; rfl)) ?_; (with_reducible refine (spec_l1Below.calls g336 t333 x337001_1 x337002_1 (t339.length : Int) t361 t362 t363 w _ ?side1 ?side2 A26.out).mono ?_); (case side1 => repeat (first | (with_reducible first | exact HI336.out | apply IsS87.alloc | apply IsS87.drewN | apply IsS87.drew | apply IsS87.set_1 | apply IsS87.set_2 | refine IsS87.far ?_ NB336_332.out _ | refine IsS87.far ?_ NB336_344.out _) | exact HI336.out)); (case side2 => repeat (first | (with_reducible first | exact HB.out | apply below_alloc | apply pw_below_drewN | apply below_drew1 | refine below_set ?_ (IsS87.ge HI336.out) | refine below_set ?_ GE332.out | refine below_set ?_ GE344.out) | exact HB.out)); rintro e w33 ⟨rfl, hi, hb, hk⟩; refine ⟨_, rfl, ?_⟩; have n0_ := Aside0.mk (Kd.R_mono (Kd.R_keep (IsS87.apart (show IsS87 w _ g336 t333 x337001_1 x337002_1 from by repeat (first | (with_reducible first | exact HI336.out | apply IsS87.alloc | apply IsS87.drewN | apply IsS87.drew | apply IsS87.set_1 | apply IsS87.set_2 | refine IsS87.far ?_ NB336_332.out _ | refine IsS87.far ?_ NB336_344.out _) | exact HI336.out)) (Kd.R_up HO_11.out) (by decide)) hk (fun _ h => h.2)) (fun _ h => h.1)); have n1_ := Aside0.mk (Kd.R_mono (Kd.R_keep (IsS87.apart (show IsS87 w _ g336 t333 x337001_1 x337002_1 from by repeat (first | (with_reducible first | exact HI336.out | apply IsS87.alloc | apply IsS87.drewN | apply IsS87.drew | apply IsS87.set_1 | apply IsS87.set_2 | refine IsS87.far ?_ NB336_332.out _ | refine IsS87.far ?_ NB336_344.out _) | exact HI336.out)) (Kd.R_up HO_12.out) (by decide)) hk (fun _ h => h.2)) (fun _ h => h.1)); have n2_ := Aside0.mk (Kd.R_mono (Kd.R_keep (IsS87.apart (show IsS87 w _ g336 t333 x337001_1 x337002_1 from by repeat (first | (with_reducible first | exact HI336.out | apply IsS87.alloc | apply IsS87.drewN | apply IsS87.drew | apply IsS87.set_1 | apply IsS87.set_2 | refine IsS87.far ?_ NB336_332.out _ | refine IsS87.far ?_ NB336_344.out _) | exact HI336.out)) (Kd.R_up HO_345002.out) (by decide)) hk (fun _ h => h.2)) (fun _ h => h.1)); have n3_ := Aside0.mk (KeepBut.blk hk (g' := gb332) (o := .cells #[.int .i64 0, .int .i64 0, .slice none 0 0] 27 (0, 0)) (blk_up BK332.out) NB332_336.out (by simp)); have n4_ := Aside0.mk (KeepBut.blk hk (g' := gb344) (o := .cells #[.int .i64 t337, .int .i64 t338, .slice Ao16 t339.length co16] 27 (0, 0)) (blk_up BK344.out) NB344_336.out (by simp)); have n5_ := Aside0.mk (hb); have n6_ := Aside0.mk (hi); clear HO_11; clear HO_12; clear HO_345002; clear BK332; clear BK344; clear HB; clear HI336; have HO_11 := n0_; have HO_12 := n1_; have HO_345002 := n2_; have BK332 := n3_; have BK344 := n4_; have HB := n5_; have HI336 := n6_; clear n0_ n1_ n2_ n3_ n4_ n5_ n6_; (try clear hb); (try clear hb2); (try clear hk); (try clear hi)) | ((with_reducible refine gate_builtin (b := .append) (xs := #[.tmp 41, .tmp 43]) rfl ?_); at_builtin; refine Kd.R_append (Kd.int .i64) (w0 := w) w.heap.size rfl (.tmp 41) (.tmp 43) 22 3 (.int .i64 0) 8 rfl Try.underlying22 info3 rfl (by decide) (by omega) u11 x11_1 t361 [.int .i64 t361] (fun k_ => some k_ ≠ (u12 : Value).ownBlock ∧ some k_ ≠ (.slice Ao16 t339.length co16 : Value).ownBlock) (fun _ => False) rfl rfl ?aP (fun _ hk => hk.elim) ?aF ?aO ?aB ?aS ?aL ?_; (case aP => exact rfl); (case aB => exact (by repeat (first | (with_reducible first | exact HB.out | apply below_alloc | apply pw_below_drewN | apply below_drew1 | refine below_set ?_ (IsS87.ge HI336.out) | refine below_set ?_ GE332.out | refine below_set ?_ GE344.out) | exact HB.out))); (case aF => exact (fun k_ hk => ⟨Kd.fresh' (Kd.R_lt (by (with_reducible repeat (first | apply Kd.R_alloc | apply Kd.R_drewN | apply Kd.R_drew)); exact HO_12.out)) k_ hk, Kd.fresh' (Kd.R_lt (by (with_reducible repeat (first | apply Kd.R_alloc | apply Kd.R_drewN | apply Kd.R_drew)); exact HO_345002.out)) k_ hk⟩)); (case aO => exact (by (with_reducible repeat (first | apply Kd.R_alloc | apply Kd.R_drewN | apply Kd.R_drew)); exact HO_11.out)); (case aS => exact (below_size (by repeat (first | (with_reducible first | exact HB.out | apply below_alloc | apply pw_below_drewN | apply below_drew1 | refine below_set ?_ (IsS87.ge HI336.out) | refine below_set ?_ GE332.out | refine below_set ?_ GE344.out) | exact HB.out)))); (case aL => have := LMc27.out; omega); intro v365 w34 ho hb hg hat; rw [← Ny364.out] at ho; have n0_ := Aside0.mk (Kd.R_after (ok := (fun k_ => some k_ ≠ (.slice Ao16 t339.length co16 : Value).ownBlock)) (by (with_reducible repeat (first | apply Kd.R_alloc | apply Kd.R_drewN | apply Kd.R_drew)); exact Kd.R_mono HO_12.out (fun _ hk => ⟨hk.2, hk.1⟩)) hg hat); have n1_ := Aside0.mk (Kd.R_after (ok := (fun k_ => some k_ ≠ (u12 : Value).ownBlock)) (by (with_reducible repeat (first | apply Kd.R_alloc | apply Kd.R_drewN | apply Kd.R_drew)); exact Kd.R_mono HO_345002.out (fun _ hk => ⟨hk.2, hk.1⟩)) hg hat); have n2_ := Aside0.mk (blk_grown (g := gb332) (o := .cells #[.int .i64 0, .int .i64 0, .slice none 0 0] 27 (0, 0)) (blk_up BK332.out) hg (Kd.R_ne HO_11.out BK332.out (by decide))); have n3_ := Aside0.mk (blk_grown (g := gb344) (o := .cells #[.int .i64 t337, .int .i64 t338, .slice Ao16 t339.length co16] 27 (0, 0)) (blk_up BK344.out) hg (Kd.R_ne HO_11.out BK344.out (by decide))); have n4_ := Aside0.mk (IsS87.grown (by repeat (first | (with_reducible first | exact HI336.out | apply IsS87.alloc | apply IsS87.drewN | apply IsS87.drew | apply IsS87.set_1 | apply IsS87.set_2 | refine IsS87.far ?_ NB336_332.out _ | refine IsS87.far ?_ NB336_344.out _) | exact HI336.out)) hg (IsS87.own_ne HI336.out HO_11.out (by decide))); have n5_ := Aside0.mk (hb); have n6_ := Aside0.mk (ho); clear HO_12; clear HO_345002; clear BK332; clear BK344; clear HI336; clear HB; clear HO_11; have HO_12 := n0_; have HO_345002 := n1_; have BK332 := n2_; have BK344 := n3_; have HI336 := n4_; have HB := n5_; have HO366 := n6_; clear n0_ n1_ n2_ n3_ n4_ n5_ n6_; clear ho hb hg hat; have hcz35_0 : w34.cell? ⟨gb344, 0, none⟩ = some (.int .i64 t337) := (blk_cell BK344.out 0).trans rfl; have hcz35_1 : w34.cell? ⟨gb344, 1, none⟩ = some (.int .i64 t338) := (blk_cell BK344.out 1).trans rfl; have hcz35_2 : w34.cell? ⟨gb344, 2, none⟩ = some (.slice Ao16 t339.length co16) := (blk_cell BK344.out 2).trans rfl; have hfz35_0 := blk_frozen BK344.out 0; have hfz35_1 := blk_frozen BK344.out 1; have hfz35_2 := blk_frozen BK344.out 2) | ((with_reducible refine gate_callee (f := 49) rfl ?_); refine goesL_ (some 49) rfl rfl Try.func49 (by kernel_rfl) rfl #[.agg #[.int .i64 t337, .int .i64 t338, .slice Ao16 t339.length co16], .int .i64 t361, .int .i64 (rd t345 t348)] rfl (by (try simp only [List.map_toArray, List.map_cons, List.map_nil]); first | done | rfl | (simp only [List.length_drop, List.length_take]; rfl)) ?_; (with_reducible refine (spec_Apart.calls k1 t337 t338 _ _ t339 t361 (rd t345 t348) t367 _ ?side1 ?side2 A28.out).mono ?_); (case side1 => exact Kd.C_up ((Kd.R_reads' HO_345002.out).2.2)); (case side2 => exact (Kd.R_reads' HO_345002.out).2.1); rintro e w36 ⟨rfl, hb⟩; refine ⟨_, rfl, ?_⟩; have n0_ := Aside0.mk (Kd.R_below (Kd.R_up HO_12.out) hb); have n1_ := Aside0.mk (Kd.R_below (Kd.R_up HO_345002.out) hb); have n2_ := Aside0.mk (Kd.R_below (Kd.R_up HO366.out) hb); have n3_ := Aside0.mk (blk_below (g := gb332) (o := .cells #[.int .i64 0, .int .i64 0, .slice none 0 0] 27 (0, 0)) (blk_up BK332.out) hb); have n4_ := Aside0.mk (blk_below (g := gb344) (o := .cells #[.int .i64 t337, .int .i64 t338, .slice Ao16 t339.length co16] 27 (0, 0)) (blk_up BK344.out) hb); have n5_ := Aside0.mk (IsS87.below (by repeat (first | (with_reducible first | exact HI336.out | apply IsS87.alloc | apply IsS87.drewN | apply IsS87.drew | apply IsS87.set_1 | apply IsS87.set_2 | refine IsS87.far ?_ NB336_332.out _ | refine IsS87.far ?_ NB336_344.out _) | exact HI336.out)) hb); have n6_ := Aside0.mk (below_step (by repeat (first | (with_reducible first | exact HB.out | apply below_alloc | apply pw_below_drewN | apply below_drew1 | refine below_set ?_ (IsS87.ge HI336.out) | refine below_set ?_ GE332.out | refine below_set ?_ GE344.out) | exact HB.out)) hb); clear HO_12; clear HO_345002; clear HO366; clear BK332; clear BK344; clear HI336; clear HB; have HO_12 := n0_; have HO_345002 := n1_; have HO366 := n2_; have BK332 := n3_; have BK344 := n4_; have HI336 := n5_; have HB := n6_; clear n0_ n1_ n2_ n3_ n4_ n5_ n6_; (try clear hb); (try clear hb2); (try clear hk); (try clear hi)) | ((with_reducible refine gate_builtin (b := .append) (xs := #[.tmp 45, .tmp 50]) rfl ?_); at_builtin; refine Kd.R_append (Kd.int .i64) (w0 := w) w.heap.size rfl (.tmp 45) (.tmp 50) 22 3 (.int .i64 0) 8 rfl Try.underlying22 info3 rfl (by decide) (by omega) u12 x12_1 t367 [.int .i64 t367] (fun k_ => some k_ ≠ (.slice Ao16 t339.length co16 : Value).ownBlock ∧ some k_ ≠ (v365 : Value).ownBlock) (fun _ => False) rfl rfl ?aP (fun _ hk => hk.elim) ?aF ?aO ?aB ?aS ?aL ?_; (case aP => exact rfl); (case aB => exact (by repeat (first | (with_reducible first | exact HB.out | apply below_alloc | apply pw_below_drewN | apply below_drew1 | refine below_set ?_ (IsS87.ge HI336.out) | refine below_set ?_ GE332.out | refine below_set ?_ GE344.out) | exact HB.out))); (case aF => exact (fun k_ hk => ⟨Kd.fresh' (Kd.R_lt (by (with_reducible repeat (first | apply Kd.R_alloc | apply Kd.R_drewN | apply Kd.R_drew)); exact HO_345002.out)) k_ hk, Kd.fresh' (Kd.R_lt (by (with_reducible repeat (first | apply Kd.R_alloc | apply Kd.R_drewN | apply Kd.R_drew)); exact HO366.out)) k_ hk⟩)); (case aO => exact (by (with_reducible repeat (first | apply Kd.R_alloc | apply Kd.R_drewN | apply Kd.R_drew)); exact HO_12.out)); (case aS => exact (below_size (by repeat (first | (with_reducible first | exact HB.out | apply below_alloc | apply pw_below_drewN | apply below_drew1 | refine below_set ?_ (IsS87.ge HI336.out) | refine below_set ?_ GE332.out | refine below_set ?_ GE344.out) | exact HB.out)))); (case aL => have := LMc29.out; omega); intro v369 w37 ho hb hg hat; rw [← Ny368.out] at ho; have n0_ := Aside0.mk (Kd.R_after (ok := (fun k_ => some k_ ≠ (v365 : Value).ownBlock)) (by (with_reducible repeat (first | apply Kd.R_alloc | apply Kd.R_drewN | apply Kd.R_drew)); exact Kd.R_mono HO_345002.out (fun _ hk => ⟨hk.2, hk.1⟩)) hg hat); have n1_ := Aside0.mk (blk_grown (g := gb332) (o := .cells #[.int .i64 0, .int .i64 0, .slice none 0 0] 27 (0, 0)) (blk_up BK332.out) hg (Kd.R_ne HO_12.out BK332.out (by decide))); have n2_ := Aside0.mk (blk_grown (g := gb344) (o := .cells #[.int .i64 t337, .int .i64 t338, .slice Ao16 t339.length co16] 27 (0, 0)) (blk_up BK344.out) hg (Kd.R_ne HO_12.out BK344.out (by decide))); have n3_ := Aside0.mk (IsS87.grown (by repeat (first | (with_reducible first | exact HI336.out | apply IsS87.alloc | apply IsS87.drewN | apply IsS87.drew | apply IsS87.set_1 | apply IsS87.set_2 | refine IsS87.far ?_ NB336_332.out _ | refine IsS87.far ?_ NB336_344.out _) | exact HI336.out)) hg (IsS87.own_ne HI336.out HO_12.out (by decide))); have n4_ := Aside0.mk (Kd.R_after (ok := (fun k_ => some k_ ≠ (.slice Ao16 t339.length co16 : Value).ownBlock)) (by (with_reducible repeat (first | apply Kd.R_alloc | apply Kd.R_drewN | apply Kd.R_drew)); exact Kd.R_mono HO366.out (fun _ hk => ⟨hk.2, hk.1⟩)) hg hat); have n5_ := Aside0.mk (hb); have n6_ := Aside0.mk (ho); clear HO_345002; clear BK332; clear BK344; clear HI336; clear HO366; clear HB; clear HO_12; have HO_345002 := n0_; have BK332 := n1_; have BK344 := n2_; have HI336 := n3_; have HO366 := n4_; have HB := n5_; have HO370 := n6_; clear n0_ n1_ n2_ n3_ n4_ n5_ n6_; clear ho hb hg hat))
     go_roundg k1
     case measure => have := HK1.out; omega
     case rel => exact ⟨(y364), (y368), (wrap64 (x13_1 - 1)), (t362), (t363), (by first | rfl | (simp; done) | (simp [*]; done)), H', ⟨by have := HK1.out; omega⟩, ⟨by (with_reducible repeat (first | apply Kd.R_alloc | apply Kd.R_drewN | apply Kd.R_drew)); exact Kd.R_mono HO366.out (fun _ hk => ⟨hk.2, hk.1⟩)⟩, ⟨by (with_reducible repeat (first | apply Kd.R_alloc | apply Kd.R_drewN | apply Kd.R_drew)); exact Kd.R_mono HO370.out (fun _ hk => ⟨hk.2, hk.1⟩)⟩, ⟨by (with_reducible repeat (first | apply Kd.R_alloc | apply Kd.R_drewN | apply Kd.R_drew)); exact HO_345002.out⟩, ⟨by (with_reducible repeat (first | refine blk_drewN ?_ _ | refine blk_drew ?_ | refine blk_alloc ?_ _)); exact BK332.out⟩, ⟨by (with_reducible repeat (first | refine blk_drewN ?_ _ | refine blk_drew ?_ | refine blk_alloc ?_ _)); exact BK344.out⟩, ⟨by repeat (first | (with_reducible first | exact HI336.out | apply IsS87.alloc | apply IsS87.drewN | apply IsS87.drew | apply IsS87.set_1 | apply IsS87.set_2 | refine IsS87.far ?_ NB336_332.out _ | refine IsS87.far ?_ NB336_344.out _) | exact HI336.out)⟩, ⟨by repeat (first | (with_reducible first | exact HB.out | apply below_alloc | apply pw_below_drewN | apply below_drew1 | refine below_set ?_ (IsS87.ge HI336.out) | refine below_set ?_ GE332.out | refine below_set ?_ GE344.out) | exact HB.out)⟩⟩
   rw [if_neg c25] at H
   have c25b0 : decide (0 < x13_1) = false := decide_eq_false c25
   clear c25
   replace H := Option.bind_eq_some_iff.mp H
   obtain ⟨⟨t371, t372, t373⟩, A380, H⟩ := H
   dsimp only at H
   have A38 := Aside0.mk A380
   clear A380
   by_cases c39 : t371 = true
   rotate_left
   · replace c39 := Bool.eq_false_iff.mpr c39
     subst c39
     rw [if_neg (show ¬ (false = true) by decide)] at H
     obtain ⟨y380, hy380⟩ : ∃ y_ : List Int, y_ = (([0] : List Int)) := ⟨_, rfl⟩
     replace H : (some (t337, t338, t339, y380, 3, x11_1, x12_1)) = some (r1, r2, r3, r4, r5, r6, r7) := by first | (rw [hy380]; with_reducible exact H) | (have H2_ := (Option.bind_some _ _).symm.trans H; rw [hy380]; with_reducible exact H2_) | (have H2_ := (Option.bind_some _ _).symm.trans H; with_reducible exact H2_) | with_reducible exact H | (rw [hy380]; exact H) | exact H
     have Ny380 := Aside0.mk hy380
     clear hy380
     simp only [Option.some.injEq, Prod.mk.injEq] at H
     obtain ⟨rfl, rfl, rfl, rfl, rfl, rfl, rfl⟩ := H
     go_wp2_with (first | ((with_reducible refine gate_callee (f := 50) rfl ?_); refine goesL_ (some 53) rfl rfl Try.func50 (by kernel_rfl) rfl #[.pointer (some ⟨g336, 0, none⟩), .int .i64 8] rfl (by (try simp only [List.map_toArray, List.map_cons, List.map_nil]); first | done | rfl | (simp only [List.length_drop, List.length_take]; rfl)) ?_; (with_reducible refine (spec_l1Once.calls g336 t333 x337001_1 x337002_1 8 false t372 t373 w _ ?side1 ?side2 A38.out).mono ?_); (case side1 => repeat (first | (with_reducible first | exact HI336.out | apply IsS87.alloc | apply IsS87.drewN | apply IsS87.drew | apply IsS87.set_1 | apply IsS87.set_2 | refine IsS87.far ?_ NB336_332.out _ | refine IsS87.far ?_ NB336_344.out _) | exact HI336.out)); (case side2 => repeat (first | (with_reducible first | exact HB.out | apply below_alloc | apply pw_below_drewN | apply below_drew1 | refine below_set ?_ (IsS87.ge HI336.out) | refine below_set ?_ GE332.out | refine below_set ?_ GE344.out) | exact HB.out)); rintro e w50 ⟨rfl, hi, hb, hk⟩; refine ⟨_, rfl, ?_⟩; have n0_ := Aside0.mk (Kd.R_mono (Kd.R_keep (IsS87.apart (show IsS87 w _ g336 t333 x337001_1 x337002_1 from by repeat (first | (with_reducible first | exact HI336.out | apply IsS87.alloc | apply IsS87.drewN | apply IsS87.drew | apply IsS87.set_1 | apply IsS87.set_2 | refine IsS87.far ?_ NB336_332.out _ | refine IsS87.far ?_ NB336_344.out _) | exact HI336.out)) (Kd.R_up HO_11.out) (by decide)) hk (fun _ h => h.2)) (fun _ h => h.1)); have n1_ := Aside0.mk (Kd.R_mono (Kd.R_keep (IsS87.apart (show IsS87 w _ g336 t333 x337001_1 x337002_1 from by repeat (first | (with_reducible first | exact HI336.out | apply IsS87.alloc | apply IsS87.drewN | apply IsS87.drew | apply IsS87.set_1 | apply IsS87.set_2 | refine IsS87.far ?_ NB336_332.out _ | refine IsS87.far ?_ NB336_344.out _) | exact HI336.out)) (Kd.R_up HO_12.out) (by decide)) hk (fun _ h => h.2)) (fun _ h => h.1)); have n2_ := Aside0.mk (Kd.R_mono (Kd.R_keep (IsS87.apart (show IsS87 w _ g336 t333 x337001_1 x337002_1 from by repeat (first | (with_reducible first | exact HI336.out | apply IsS87.alloc | apply IsS87.drewN | apply IsS87.drew | apply IsS87.set_1 | apply IsS87.set_2 | refine IsS87.far ?_ NB336_332.out _ | refine IsS87.far ?_ NB336_344.out _) | exact HI336.out)) (Kd.R_up HO_345002.out) (by decide)) hk (fun _ h => h.2)) (fun _ h => h.1)); have n3_ := Aside0.mk (KeepBut.blk hk (g' := gb332) (o := .cells #[.int .i64 0, .int .i64 0, .slice none 0 0] 27 (0, 0)) (blk_up BK332.out) NB332_336.out (by simp)); have n4_ := Aside0.mk (KeepBut.blk hk (g' := gb344) (o := .cells #[.int .i64 t337, .int .i64 t338, .slice Ao16 t339.length co16] 27 (0, 0)) (blk_up BK344.out) NB344_336.out (by simp)); have n5_ := Aside0.mk (hb); have n6_ := Aside0.mk (hi); clear HO_11; clear HO_12; clear HO_345002; clear BK332; clear BK344; clear HB; clear HI336; have HO_11 := n0_; have HO_12 := n1_; have HO_345002 := n2_; have BK332 := n3_; have BK344 := n4_; have HB := n5_; have HI336 := n6_; clear n0_ n1_ n2_ n3_ n4_ n5_ n6_; (try clear hb); (try clear hb2); (try clear hk); (try clear hi); have hnb51 := NB344_332.out; have hnc51 := NB332_344.out; have hnb52 := NB344_336.out; have hnc52 := NB336_344.out; have hcz53_0 : w50.cell? ⟨gb344, 0, none⟩ = some (.int .i64 t337) := (blk_cell BK344.out 0).trans rfl; have hcz53_1 : w50.cell? ⟨gb344, 1, none⟩ = some (.int .i64 t338) := (blk_cell BK344.out 1).trans rfl; have hcz53_2 : w50.cell? ⟨gb344, 2, none⟩ = some (.slice Ao16 t339.length co16) := (blk_cell BK344.out 2).trans rfl; have hfz53_0 := blk_frozen BK344.out 0; have hfz53_1 := blk_frozen BK344.out 1; have hfz53_2 := blk_frozen BK344.out 2) | ((with_reducible refine gate_dst (N := 58) rfl ?_); refine Kd.R_lit (Kd.int .i64) _ 3 ?hg (N := 58) ?hd (xs := ([0] : List Int)) (inner := [.int .i64 0]) (ok := fun _ => True) (okp := fun _ => True) ?hr ?hp (fun _ hk => hk) trivial (Below.refl _ _) (Nat.le_refl _) (by simp) ?_; (case hd => rfl); (case hg => rfl); (case hr => first | (go_simp; done) | (go_simp; rfl)); (case hp => exact (Reps.one (show Kd.M (Kd.int .i64) _ _ _ 0 [.int .i64 0] from rfl) (Reps.none _ _))); intro v381 w54 ho55 hb hg_ hnew_; clear hg_ hnew_; (first | rw [← Ny380.out] at ho55 | (simp only [Int.reduceToNat] at ho55; rw [← Ny380.out] at ho55)); have n0_ := Aside0.mk (Kd.R_elder' (Kd.R_up HO_11.out) (Kd.R_base ho55) hb); have n1_ := Aside0.mk (Kd.R_elder' (Kd.R_up HO_12.out) (Kd.R_base ho55) hb); have n2_ := Aside0.mk (Kd.R_elder' (Kd.R_up HO_345002.out) (Kd.R_base ho55) hb); have n3_ := Aside0.mk (Kd.R_lower (Kd.R_new' (Kd.R_new' (Kd.R_new' ho55 (Kd.R_lt (Kd.R_up HO_11.out))) (Kd.R_lt (Kd.R_up HO_12.out))) (Kd.R_lt (Kd.R_up HO_345002.out))) (below_size (by repeat (first | (with_reducible first | exact HB.out | apply below_alloc | apply pw_below_drewN | apply below_drew1 | refine below_set ?_ (IsS87.ge HI336.out) | refine below_set ?_ GE332.out | refine below_set ?_ GE344.out) | exact HB.out)))); have n4_ := Aside0.mk (blk_below (g := gb332) (o := .cells #[.int .i64 0, .int .i64 0, .slice none 0 0] 27 (0, 0)) (blk_up BK332.out) hb); have n5_ := Aside0.mk (blk_below (g := gb344) (o := .cells #[.int .i64 t337, .int .i64 t338, .slice Ao16 t339.length co16] 27 (0, 0)) (blk_up BK344.out) hb); have n6_ := Aside0.mk (IsS87.below (by repeat (first | (with_reducible first | exact HI336.out | apply IsS87.alloc | apply IsS87.drewN | apply IsS87.drew | apply IsS87.set_1 | apply IsS87.set_2 | refine IsS87.far ?_ NB336_332.out _ | refine IsS87.far ?_ NB336_344.out _) | exact HI336.out)) hb); have n7_ := Aside0.mk (below_step (by repeat (first | (with_reducible first | exact HB.out | apply below_alloc | apply pw_below_drewN | apply below_drew1 | refine below_set ?_ (IsS87.ge HI336.out) | refine below_set ?_ GE332.out | refine below_set ?_ GE344.out) | exact HB.out)) hb); clear HO_11; clear HO_12; clear HO_345002; clear BK332; clear BK344; clear HI336; clear HB; have HO_11 := n0_; have HO_12 := n1_; have HO_345002 := n2_; have HO382 := n3_; have BK332 := n4_; have BK344 := n5_; have HI336 := n6_; have HB := n7_; clear n0_ n1_ n2_ n3_ n4_ n5_ n6_ n7_; clear hb ho55; have hnb56 := NB332_336.out; have hnc56 := NB336_332.out; have hcz57_0 : w54.cell? ⟨gb332, 0, none⟩ = some (.int .i64 0) := (blk_cell BK332.out 0).trans rfl; have hcz57_1 : w54.cell? ⟨gb332, 1, none⟩ = some (.int .i64 0) := (blk_cell BK332.out 1).trans rfl; have hcz57_2 : w54.cell? ⟨gb332, 2, none⟩ = some (.slice none 0 0) := (blk_cell BK332.out 2).trans rfl; have hfz57_0 := blk_frozen BK332.out 0; have hfz57_1 := blk_frozen BK332.out 1; have hfz57_2 := blk_frozen BK332.out 2))
     refine bodyPost_ret (results_list (rs := [.cell 2 27, .tmp 3, .tmp 4, .tmp 5, .tmp 6]) rfl (by simp) (.cell gb332 27 #[.int .i64 t337, .int .i64 t338, .slice Ao16 t339.length co16] (0, 0) _ rfl (by (with_reducible repeat (first | refine blk_drewN ?_ _ | refine blk_drew ?_ | refine blk_alloc ?_ _)); refine blk_put (cs := #[.int .i64 t337, .int .i64 t338, .slice none 0 0]) ?_ 2 _ rfl; (with_reducible repeat (first | refine blk_drewN ?_ _ | refine blk_drew ?_ | refine blk_alloc ?_ _)); refine blk_put (cs := #[.int .i64 t337, .int .i64 0, .slice none 0 0]) ?_ 1 _ rfl; (with_reducible repeat (first | refine blk_drewN ?_ _ | refine blk_drew ?_ | refine blk_alloc ?_ _)); refine blk_put (cs := #[.int .i64 0, .int .i64 0, .slice none 0 0]) ?_ 0 _ rfl; (with_reducible repeat (first | refine blk_drewN ?_ _ | refine blk_drew ?_ | refine blk_alloc ?_ _)); exact BK332.out) Try.underlying27 rfl (by kernel_rfl) (.tmp (.tmp (.tmp (.tmp .nil)))))) rfl ?_
     exact ⟨_, _, _, _, by first | rfl | (simp [errW_none, errW_some] <;> rfl) | (simp [*, errW_none, errW_some] <;> rfl), by (with_reducible repeat (first | apply Kd.R_alloc | apply Kd.R_drewN | apply Kd.R_drew)); exact Kd.R_mono (Kd.R_far (p := ⟨gb332, 2, none⟩) (Kd.R_far (p := ⟨gb332, 1, none⟩) (Kd.R_far (p := ⟨gb332, 0, none⟩) (Kd.R_types HO_345002.out BK332.out (by decide)) (fun _ hk => hk.2) (.int .i64 t337)) (fun _ hk => hk.2) (.int .i64 t338)) (fun _ hk => hk.2) (.slice Ao16 t339.length co16)) (fun _ hk => ⟨hk.1.2, ⟨hk.1.1.1, hk.1.1.2⟩⟩), by (with_reducible repeat (first | apply Kd.R_alloc | apply Kd.R_drewN | apply Kd.R_drew)); exact Kd.R_mono (Kd.R_far (p := ⟨gb332, 2, none⟩) (Kd.R_far (p := ⟨gb332, 1, none⟩) (Kd.R_far (p := ⟨gb332, 0, none⟩) (Kd.R_types HO382.out BK332.out (by decide)) (fun _ hk => hk.2) (.int .i64 t337)) (fun _ hk => hk.2) (.int .i64 t338)) (fun _ hk => hk.2) (.slice Ao16 t339.length co16)) (fun _ hk => ⟨hk.1.2, ⟨hk.1.1.1.2, hk.1.1.2⟩⟩), by (with_reducible repeat (first | apply Kd.R_alloc | apply Kd.R_drewN | apply Kd.R_drew)); exact Kd.R_mono (Kd.R_far (p := ⟨gb332, 2, none⟩) (Kd.R_far (p := ⟨gb332, 1, none⟩) (Kd.R_far (p := ⟨gb332, 0, none⟩) (Kd.R_types HO_11.out BK332.out (by decide)) (fun _ hk => hk.2) (.int .i64 t337)) (fun _ hk => hk.2) (.int .i64 t338)) (fun _ hk => hk.2) (.slice Ao16 t339.length co16)) (fun _ hk => ⟨hk.1.1.2, ⟨hk.1.2, hk.1.1.1⟩⟩), by (with_reducible repeat (first | apply Kd.R_alloc | apply Kd.R_drewN | apply Kd.R_drew)); exact Kd.R_mono (Kd.R_far (p := ⟨gb332, 2, none⟩) (Kd.R_far (p := ⟨gb332, 1, none⟩) (Kd.R_far (p := ⟨gb332, 0, none⟩) (Kd.R_types HO_12.out BK332.out (by decide)) (fun _ hk => hk.2) (.int .i64 t337)) (fun _ hk => hk.2) (.int .i64 t338)) (fun _ hk => hk.2) (.slice Ao16 t339.length co16)) (fun _ hk => ⟨hk.1.1.2, ⟨hk.1.2, hk.1.1.1⟩⟩), by repeat (first | (with_reducible first | exact HB.out | apply below_alloc | apply pw_below_drewN | apply below_drew1 | refine below_set ?_ (IsS87.ge HI336.out) | refine below_set ?_ GE332.out | refine below_set ?_ GE344.out) | exact HB.out)⟩
   subst c39
   rw [if_pos rfl] at H
   by_cases c40 : x11_1.length < 17592186044416
   rotate_left
   · rw [if_neg c40] at H
     exact absurd H (by simp)
   rw [if_pos c40] at H
   have LMc40 := Aside0.mk c40
   clear c40
   obtain ⟨y374, hy374⟩ : ∃ y_ : List Int, y_ = (x11_1 ++ [0]) := ⟨_, rfl⟩
   replace H : (some (t337, t338, t339, (([0] : List Int)), 3, y374, x12_1)) = some (r1, r2, r3, r4, r5, r6, r7) := by first | (rw [hy374]; with_reducible exact H) | (have H2_ := (Option.bind_some _ _).symm.trans H; rw [hy374]; with_reducible exact H2_) | (have H2_ := (Option.bind_some _ _).symm.trans H; with_reducible exact H2_) | with_reducible exact H | (rw [hy374]; exact H) | exact H
   have Ny374 := Aside0.mk hy374
   clear hy374
   obtain ⟨y377, hy377⟩ : ∃ y_ : List Int, y_ = (([0] : List Int)) := ⟨_, rfl⟩
   replace H : (some (t337, t338, t339, y377, 3, y374, x12_1)) = some (r1, r2, r3, r4, r5, r6, r7) := by first | (rw [hy377]; with_reducible exact H) | (have H2_ := (Option.bind_some _ _).symm.trans H; rw [hy377]; with_reducible exact H2_) | (have H2_ := (Option.bind_some _ _).symm.trans H; with_reducible exact H2_) | with_reducible exact H | (rw [hy377]; exact H) | exact H
   have Ny377 := Aside0.mk hy377
   clear hy377
   simp only [Option.some.injEq, Prod.mk.injEq] at H
   obtain ⟨rfl, rfl, rfl, rfl, rfl, rfl, rfl⟩ := H
   go_wp2_with (first | ((with_reducible refine gate_callee (f := 50) rfl ?_); refine goesL_ (some 53) rfl rfl Try.func50 (by kernel_rfl) rfl #[.pointer (some ⟨g336, 0, none⟩), .int .i64 8] rfl (by (try simp only [List.map_toArray, List.map_cons, List.map_nil]); first | done | rfl | (simp only [List.length_drop, List.length_take]; rfl)) ?_; (with_reducible refine (spec_l1Once.calls g336 t333 x337001_1 x337002_1 8 true t372 t373 w _ ?side1 ?side2 A38.out).mono ?_); (case side1 => repeat (first | (with_reducible first | exact HI336.out | apply IsS87.alloc | apply IsS87.drewN | apply IsS87.drew | apply IsS87.set_1 | apply IsS87.set_2 | refine IsS87.far ?_ NB336_332.out _ | refine IsS87.far ?_ NB336_344.out _) | exact HI336.out)); (case side2 => repeat (first | (with_reducible first | exact HB.out | apply below_alloc | apply pw_below_drewN | apply below_drew1 | refine below_set ?_ (IsS87.ge HI336.out) | refine below_set ?_ GE332.out | refine below_set ?_ GE344.out) | exact HB.out)); rintro e w41 ⟨rfl, hi, hb, hk⟩; refine ⟨_, rfl, ?_⟩; have n0_ := Aside0.mk (Kd.R_mono (Kd.R_keep (IsS87.apart (show IsS87 w _ g336 t333 x337001_1 x337002_1 from by repeat (first | (with_reducible first | exact HI336.out | apply IsS87.alloc | apply IsS87.drewN | apply IsS87.drew | apply IsS87.set_1 | apply IsS87.set_2 | refine IsS87.far ?_ NB336_332.out _ | refine IsS87.far ?_ NB336_344.out _) | exact HI336.out)) (Kd.R_up HO_11.out) (by decide)) hk (fun _ h => h.2)) (fun _ h => h.1)); have n1_ := Aside0.mk (Kd.R_mono (Kd.R_keep (IsS87.apart (show IsS87 w _ g336 t333 x337001_1 x337002_1 from by repeat (first | (with_reducible first | exact HI336.out | apply IsS87.alloc | apply IsS87.drewN | apply IsS87.drew | apply IsS87.set_1 | apply IsS87.set_2 | refine IsS87.far ?_ NB336_332.out _ | refine IsS87.far ?_ NB336_344.out _) | exact HI336.out)) (Kd.R_up HO_12.out) (by decide)) hk (fun _ h => h.2)) (fun _ h => h.1)); have n2_ := Aside0.mk (Kd.R_mono (Kd.R_keep (IsS87.apart (show IsS87 w _ g336 t333 x337001_1 x337002_1 from by repeat (first | (with_reducible first | exact HI336.out | apply IsS87.alloc | apply IsS87.drewN | apply IsS87.drew | apply IsS87.set_1 | apply IsS87.set_2 | refine IsS87.far ?_ NB336_332.out _ | refine IsS87.far ?_ NB336_344.out _) | exact HI336.out)) (Kd.R_up HO_345002.out) (by decide)) hk (fun _ h => h.2)) (fun _ h => h.1)); have n3_ := Aside0.mk (KeepBut.blk hk (g' := gb332) (o := .cells #[.int .i64 0, .int .i64 0, .slice none 0 0] 27 (0, 0)) (blk_up BK332.out) NB332_336.out (by simp)); have n4_ := Aside0.mk (KeepBut.blk hk (g' := gb344) (o := .cells #[.int .i64 t337, .int .i64 t338, .slice Ao16 t339.length co16] 27 (0, 0)) (blk_up BK344.out) NB344_336.out (by simp)); have n5_ := Aside0.mk (hb); have n6_ := Aside0.mk (hi); clear HO_11; clear HO_12; clear HO_345002; clear BK332; clear BK344; clear HB; clear HI336; have HO_11 := n0_; have HO_12 := n1_; have HO_345002 := n2_; have BK332 := n3_; have BK344 := n4_; have HB := n5_; have HI336 := n6_; clear n0_ n1_ n2_ n3_ n4_ n5_ n6_; (try clear hb); (try clear hb2); (try clear hk); (try clear hi)) | ((with_reducible refine gate_builtin (b := .append) (xs := #[.tmp 54, .tmp 55]) rfl ?_); at_builtin; refine Kd.R_append (Kd.int .i64) (w0 := w) w.heap.size rfl (.tmp 54) (.tmp 55) 22 3 (.int .i64 0) 8 rfl Try.underlying22 info3 rfl (by decide) (by omega) u11 x11_1 0 [.int .i64 0] (fun k_ => some k_ ≠ (u12 : Value).ownBlock ∧ some k_ ≠ (.slice Ao16 t339.length co16 : Value).ownBlock) (fun _ => False) rfl rfl ?aP (fun _ hk => hk.elim) ?aF ?aO ?aB ?aS ?aL ?_; (case aP => exact rfl); (case aB => exact (by repeat (first | (with_reducible first | exact HB.out | apply below_alloc | apply pw_below_drewN | apply below_drew1 | refine below_set ?_ (IsS87.ge HI336.out) | refine below_set ?_ GE332.out | refine below_set ?_ GE344.out) | exact HB.out))); (case aF => exact (fun k_ hk => ⟨Kd.fresh' (Kd.R_lt (by (with_reducible repeat (first | apply Kd.R_alloc | apply Kd.R_drewN | apply Kd.R_drew)); exact HO_12.out)) k_ hk, Kd.fresh' (Kd.R_lt (by (with_reducible repeat (first | apply Kd.R_alloc | apply Kd.R_drewN | apply Kd.R_drew)); exact HO_345002.out)) k_ hk⟩)); (case aO => exact (by (with_reducible repeat (first | apply Kd.R_alloc | apply Kd.R_drewN | apply Kd.R_drew)); exact HO_11.out)); (case aS => exact (below_size (by repeat (first | (with_reducible first | exact HB.out | apply below_alloc | apply pw_below_drewN | apply below_drew1 | refine below_set ?_ (IsS87.ge HI336.out) | refine below_set ?_ GE332.out | refine below_set ?_ GE344.out) | exact HB.out)))); (case aL => have := LMc40.out; omega); intro v375 w42 ho hb hg hat; rw [← Ny374.out] at ho; have n0_ := Aside0.mk (Kd.R_after (ok := (fun k_ => some k_ ≠ (.slice Ao16 t339.length co16 : Value).ownBlock)) (by (with_reducible repeat (first | apply Kd.R_alloc | apply Kd.R_drewN | apply Kd.R_drew)); exact Kd.R_mono HO_12.out (fun _ hk => ⟨hk.2, hk.1⟩)) hg hat); have n1_ := Aside0.mk (Kd.R_after (ok := (fun k_ => some k_ ≠ (u12 : Value).ownBlock)) (by (with_reducible repeat (first | apply Kd.R_alloc | apply Kd.R_drewN | apply Kd.R_drew)); exact Kd.R_mono HO_345002.out (fun _ hk => ⟨hk.2, hk.1⟩)) hg hat); have n2_ := Aside0.mk (blk_grown (g := gb332) (o := .cells #[.int .i64 0, .int .i64 0, .slice none 0 0] 27 (0, 0)) (blk_up BK332.out) hg (Kd.R_ne HO_11.out BK332.out (by decide))); have n3_ := Aside0.mk (blk_grown (g := gb344) (o := .cells #[.int .i64 t337, .int .i64 t338, .slice Ao16 t339.length co16] 27 (0, 0)) (blk_up BK344.out) hg (Kd.R_ne HO_11.out BK344.out (by decide))); have n4_ := Aside0.mk (IsS87.grown (by repeat (first | (with_reducible first | exact HI336.out | apply IsS87.alloc | apply IsS87.drewN | apply IsS87.drew | apply IsS87.set_1 | apply IsS87.set_2 | refine IsS87.far ?_ NB336_332.out _ | refine IsS87.far ?_ NB336_344.out _) | exact HI336.out)) hg (IsS87.own_ne HI336.out HO_11.out (by decide))); have n5_ := Aside0.mk (hb); have n6_ := Aside0.mk (ho); clear HO_12; clear HO_345002; clear BK332; clear BK344; clear HI336; clear HB; clear HO_11; have HO_12 := n0_; have HO_345002 := n1_; have BK332 := n2_; have BK344 := n3_; have HI336 := n4_; have HB := n5_; have HO376 := n6_; clear n0_ n1_ n2_ n3_ n4_ n5_ n6_; clear ho hb hg hat; have hnb43 := NB344_332.out; have hnc43 := NB332_344.out; have hnb44 := NB344_336.out; have hnc44 := NB336_344.out; have hcz45_0 : w42.cell? ⟨gb344, 0, none⟩ = some (.int .i64 t337) := (blk_cell BK344.out 0).trans rfl; have hcz45_1 : w42.cell? ⟨gb344, 1, none⟩ = some (.int .i64 t338) := (blk_cell BK344.out 1).trans rfl; have hcz45_2 : w42.cell? ⟨gb344, 2, none⟩ = some (.slice Ao16 t339.length co16) := (blk_cell BK344.out 2).trans rfl; have hfz45_0 := blk_frozen BK344.out 0; have hfz45_1 := blk_frozen BK344.out 1; have hfz45_2 := blk_frozen BK344.out 2) | ((with_reducible refine gate_dst (N := 58) rfl ?_); refine Kd.R_lit (Kd.int .i64) _ 3 ?hg (N := 58) ?hd (xs := ([0] : List Int)) (inner := [.int .i64 0]) (ok := fun _ => True) (okp := fun _ => True) ?hr ?hp (fun _ hk => hk) trivial (Below.refl _ _) (Nat.le_refl _) (by simp) ?_; (case hd => rfl); (case hg => rfl); (case hr => first | (go_simp; done) | (go_simp; rfl)); (case hp => exact (Reps.one (show Kd.M (Kd.int .i64) _ _ _ 0 [.int .i64 0] from rfl) (Reps.none _ _))); intro v378 w46 ho47 hb hg_ hnew_; clear hg_ hnew_; (first | rw [← Ny377.out] at ho47 | (simp only [Int.reduceToNat] at ho47; rw [← Ny377.out] at ho47)); have n0_ := Aside0.mk (Kd.R_elder' (Kd.R_up HO_12.out) (Kd.R_base ho47) hb); have n1_ := Aside0.mk (Kd.R_elder' (Kd.R_up HO_345002.out) (Kd.R_base ho47) hb); have n2_ := Aside0.mk (Kd.R_elder' (Kd.R_up HO376.out) (Kd.R_base ho47) hb); have n3_ := Aside0.mk (Kd.R_lower (Kd.R_new' (Kd.R_new' (Kd.R_new' ho47 (Kd.R_lt (Kd.R_up HO_12.out))) (Kd.R_lt (Kd.R_up HO_345002.out))) (Kd.R_lt (Kd.R_up HO376.out))) (below_size (by repeat (first | (with_reducible first | exact HB.out | apply below_alloc | apply pw_below_drewN | apply below_drew1 | refine below_set ?_ (IsS87.ge HI336.out) | refine below_set ?_ GE332.out | refine below_set ?_ GE344.out) | exact HB.out)))); have n4_ := Aside0.mk (blk_below (g := gb332) (o := .cells #[.int .i64 0, .int .i64 0, .slice none 0 0] 27 (0, 0)) (blk_up BK332.out) hb); have n5_ := Aside0.mk (blk_below (g := gb344) (o := .cells #[.int .i64 t337, .int .i64 t338, .slice Ao16 t339.length co16] 27 (0, 0)) (blk_up BK344.out) hb); have n6_ := Aside0.mk (IsS87.below (by repeat (first | (with_reducible first | exact HI336.out | apply IsS87.alloc | apply IsS87.drewN | apply IsS87.drew | apply IsS87.set_1 | apply IsS87.set_2 | refine IsS87.far ?_ NB336_332.out _ | refine IsS87.far ?_ NB336_344.out _) | exact HI336.out)) hb); have n7_ := Aside0.mk (below_step (by repeat (first | (with_reducible first | exact HB.out | apply below_alloc | apply pw_below_drewN | apply below_drew1 | refine below_set ?_ (IsS87.ge HI336.out) | refine below_set ?_ GE332.out | refine below_set ?_ GE344.out) | exact HB.out)) hb); clear HO_12; clear HO_345002; clear HO376; clear BK332; clear BK344; clear HI336; clear HB; have HO_12 := n0_; have HO_345002 := n1_; have HO376 := n2_; have HO379 := n3_; have BK332 := n4_; have BK344 := n5_; have HI336 := n6_; have HB := n7_; clear n0_ n1_ n2_ n3_ n4_ n5_ n6_ n7_; clear hb ho47; have hnb48 := NB332_336.out; have hnc48 := NB336_332.out; have hcz49_0 : w46.cell? ⟨gb332, 0, none⟩ = some (.int .i64 0) := (blk_cell BK332.out 0).trans rfl; have hcz49_1 : w46.cell? ⟨gb332, 1, none⟩ = some (.int .i64 0) := (blk_cell BK332.out 1).trans rfl; have hcz49_2 : w46.cell? ⟨gb332, 2, none⟩ = some (.slice none 0 0) := (blk_cell BK332.out 2).trans rfl; have hfz49_0 := blk_frozen BK332.out 0; have hfz49_1 := blk_frozen BK332.out 1; have hfz49_2 := blk_frozen BK332.out 2))
   refine bodyPost_ret (results_list (rs := [.cell 2 27, .tmp 3, .tmp 4, .tmp 5, .tmp 6]) rfl (by simp) (.cell gb332 27 #[.int .i64 t337, .int .i64 t338, .slice Ao16 t339.length co16] (0, 0) _ rfl (by (with_reducible repeat (first | refine blk_drewN ?_ _ | refine blk_drew ?_ | refine blk_alloc ?_ _)); refine blk_put (cs := #[.int .i64 t337, .int .i64 t338, .slice none 0 0]) ?_ 2 _ rfl; (with_reducible repeat (first | refine blk_drewN ?_ _ | refine blk_drew ?_ | refine blk_alloc ?_ _)); refine blk_put (cs := #[.int .i64 t337, .int .i64 0, .slice none 0 0]) ?_ 1 _ rfl; (with_reducible repeat (first | refine blk_drewN ?_ _ | refine blk_drew ?_ | refine blk_alloc ?_ _)); refine blk_put (cs := #[.int .i64 0, .int .i64 0, .slice none 0 0]) ?_ 0 _ rfl; (with_reducible repeat (first | refine blk_drewN ?_ _ | refine blk_drew ?_ | refine blk_alloc ?_ _)); exact BK332.out) Try.underlying27 rfl (by kernel_rfl) (.tmp (.tmp (.tmp (.tmp .nil)))))) rfl ?_
   exact ⟨_, _, _, _, by first | rfl | (simp [errW_none, errW_some] <;> rfl) | (simp [*, errW_none, errW_some] <;> rfl), by (with_reducible repeat (first | apply Kd.R_alloc | apply Kd.R_drewN | apply Kd.R_drew)); exact Kd.R_mono (Kd.R_far (p := ⟨gb332, 2, none⟩) (Kd.R_far (p := ⟨gb332, 1, none⟩) (Kd.R_far (p := ⟨gb332, 0, none⟩) (Kd.R_types HO_345002.out BK332.out (by decide)) (fun _ hk => hk.2) (.int .i64 t337)) (fun _ hk => hk.2) (.int .i64 t338)) (fun _ hk => hk.2) (.slice Ao16 t339.length co16)) (fun _ hk => ⟨hk.1.2, ⟨hk.1.1.2, hk.1.1.1⟩⟩), by (with_reducible repeat (first | apply Kd.R_alloc | apply Kd.R_drewN | apply Kd.R_drew)); exact Kd.R_mono (Kd.R_far (p := ⟨gb332, 2, none⟩) (Kd.R_far (p := ⟨gb332, 1, none⟩) (Kd.R_far (p := ⟨gb332, 0, none⟩) (Kd.R_types HO379.out BK332.out (by decide)) (fun _ hk => hk.2) (.int .i64 t337)) (fun _ hk => hk.2) (.int .i64 t338)) (fun _ hk => hk.2) (.slice Ao16 t339.length co16)) (fun _ hk => ⟨hk.1.1.2, ⟨hk.1.2, hk.1.1.1.2⟩⟩), by (with_reducible repeat (first | apply Kd.R_alloc | apply Kd.R_drewN | apply Kd.R_drew)); exact Kd.R_mono (Kd.R_far (p := ⟨gb332, 2, none⟩) (Kd.R_far (p := ⟨gb332, 1, none⟩) (Kd.R_far (p := ⟨gb332, 0, none⟩) (Kd.R_types HO376.out BK332.out (by decide)) (fun _ hk => hk.2) (.int .i64 t337)) (fun _ hk => hk.2) (.int .i64 t338)) (fun _ hk => hk.2) (.slice Ao16 t339.length co16)) (fun _ hk => ⟨hk.1.1.2, ⟨hk.1.2, hk.1.1.1⟩⟩), by (with_reducible repeat (first | apply Kd.R_alloc | apply Kd.R_drewN | apply Kd.R_drew)); exact Kd.R_mono (Kd.R_far (p := ⟨gb332, 2, none⟩) (Kd.R_far (p := ⟨gb332, 1, none⟩) (Kd.R_far (p := ⟨gb332, 0, none⟩) (Kd.R_types HO_12.out BK332.out (by decide)) (fun _ hk => hk.2) (.int .i64 t337)) (fun _ hk => hk.2) (.int .i64 t338)) (fun _ hk => hk.2) (.slice Ao16 t339.length co16)) (fun _ hk => ⟨hk.1.1.1, ⟨hk.1.2, hk.1.1.2⟩⟩), by repeat (first | (with_reducible first | exact HB.out | apply below_alloc | apply pw_below_drewN | apply below_drew1 | refine below_set ?_ (IsS87.ge HI336.out) | refine below_set ?_ GE332.out | refine below_set ?_ GE344.out) | exact HB.out)⟩

/-! ### laws_ascends: function 21 -/
def laws_ascends.l0 : Nat → List Int → Int → Option (Bool)
 | 0, _, _ => none
 | k + 1, x0, x3 => if x3 < (x0.length : Int) then (if 0 ≤ (wrap64 (x3 - 1)) then (if (wrap64 (x3 - 1)) < (x0.length : Int) then (if 0 ≤ x3 then (if (rd x0 (wrap64 (x3 - 1))) ≥ (rd x0 x3) then (some false) else (laws_ascends.l0 k x0 (wrap64 (x3 + 1)))) else (none)) else (none)) else (none)) else (some true)
def laws_ascends.f (k : Nat) (l0 : List Int) : Option (Bool) := laws_ascends.l0 k l0 1
theorem laws_ascends.mono_l : ∀ k, (∀ y0 y1, LeO (laws_ascends.l0 k y0 y1) (laws_ascends.l0 (k + 1) y0 y1))
 | 0 => fun _ _ r h => by simp [laws_ascends.l0] at h
 | k + 1 => by
  have ih0 := laws_ascends.mono_l k
  · intro y0 y1
    unfold laws_ascends.l0
    repeat' first
    | (with_reducible exact ih0 _ _)
    | (with_reducible exact LeO.refl _)
    | (with_reducible exact LeO.none _)
    | (with_reducible refine LeO.ite ?_ ?_)
    | (with_reducible refine LeO.bind ?_ (fun _ => ?_))
    | exact ih0 _ _
    | exact LeO.none _
    | refine LeO.ite ?_ ?_
    | refine LeO.bind ?_ (fun _ => ?_)
theorem laws_ascends.mono : ∀ a0 k, LeO (laws_ascends.f k a0) (laws_ascends.f (k + 1) a0) := by
 intro a0 k
 have ih0 := laws_ascends.mono_l k
 unfold laws_ascends.f
 repeat' first
  | (with_reducible exact ih0 _ _)
  | (with_reducible exact LeO.refl _)
  | (with_reducible exact LeO.none _)
  | (with_reducible refine LeO.ite ?_ ?_)
  | (with_reducible refine LeO.bind ?_ (fun _ => ?_))
  | exact ih0 _ _
  | exact LeO.none _
  | refine LeO.ite ?_ ?_
  | refine LeO.bind ?_ (fun _ => ?_)
set_option maxHeartbeats 8000000 in
set_option maxRecDepth 100000 in
theorem laws_ascends.calls (k : Nat) (A0 : Option Addr) (c0 : Nat) (l0 : List Int) (r : Bool) (w : World) (hr0 : Kd.C (Kd.int .i64) w A0 l0.length l0) (hc0 : l0.length ≤ c0) (h : laws_ascends.f k l0 = some r) :
 Calls Try.prog 21 #[.slice A0 l0.length c0] w fun e w' => e = .returned (.bool r) ∧ Drawn0 w w' := by
 have HR0 := Aside0.mk hr0
 have HC0 := Aside0.mk hc0
 clear hr0 hc0
 have H : (laws_ascends.l0 k l0 1) = some r := h
 clear h
 have H' := Aside0.mk H
 clear H
 go_enter Try.func21, Try.ntmps21
 go_wp2
 repeat (go_quiet (fail); try go_wp2)
 go_loopg [3] k (fun kq v3 w' => ∃ (x3_1 : Int), v3 = .int .i64 x3_1 ∧ Aside0 (laws_ascends.l0 kq l0 x3_1 = some r) ∧ Aside0 (kq ≤ k) ∧ Drawn0 w w')
 case atStart => exact ⟨(1), (by first | rfl | (simp; done) | (simp [*]; done)), H', ⟨Nat.le_refl _⟩, by repeat (first | exact Drawn0.refl _ | apply Drawn0.step)⟩
 case round =>
  clear H'
  obtain ⟨x3_1, rfl, HA, HK1, ⟨m1, rfl⟩⟩ := hrel
  cases gk with
  | zero => exact absurd HA.out (by simp [laws_ascends.l0])
  | succ k1 =>
   have H := HA.out
   clear HA
   simp only [laws_ascends.l0] at H
   by_cases c2 : x3_1 < (l0.length : Int)
   rotate_left
   · rw [if_neg c2] at H
     have c2b0 : decide (x3_1 < (l0.length : Int)) = false := decide_eq_false c2
     clear c2
     obtain rfl := Option.some.inj H
     go_wp2
     repeat (go_quiet (fail); try go_wp2)
     go_ret
     exact ⟨by first | rfl | (simp; done) | (simp [*]; done), by repeat (first | exact Drawn0.refl _ | apply Drawn0.step)⟩
   rw [if_pos c2] at H
   have c2b0 : decide (x3_1 < (l0.length : Int)) = true := decide_eq_true c2
   clear c2
   obtain ⟨ji3, hji3⟩ : ∃ j_ : Int, (wrap64 (x3_1 - 1)) = j_ := ⟨_, rfl⟩
   replace H : (if 0 ≤ (ji3) then (if (ji3) < (l0.length : Int) then (if 0 ≤ x3_1 then (if (rd l0 (ji3)) ≥ (rd l0 x3_1) then (some false) else (laws_ascends.l0 k1 l0 (wrap64 (x3_1 + 1)))) else (none)) else (none)) else (none)) = some r := by first | (rw [hji3] at H; exact H) | (simp only [hji3] at H ⊢; exact H)
   have hji3w : (IntKind.i64.wrap (x3_1 - 1)) = ji3 := (i64_w _).trans hji3
   by_cases c4 : 0 ≤ (ji3)
   rotate_left
   · rw [if_neg c4] at H
     exact absurd H (by simp)
   rw [if_pos c4] at H
   have c4b0 : decide (0 ≤ (ji3)) = true := decide_eq_true c4
   clear c4
   by_cases c5 : (ji3) < (l0.length : Int)
   rotate_left
   · rw [if_neg c5] at H
     exact absurd H (by simp)
   rw [if_pos c5] at H
   have c5b0 : decide ((ji3) < (l0.length : Int)) = true := decide_eq_true c5
   clear c5
   by_cases c6 : 0 ≤ x3_1
   rotate_left
   · rw [if_neg c6] at H
     exact absurd H (by simp)
   rw [if_pos c6] at H
   have c6b0 : decide (0 ≤ x3_1) = true := decide_eq_true c6
   clear c6
   by_cases c7 : (rd l0 (ji3)) ≥ (rd l0 x3_1)
   · rw [if_pos c7] at H
     have c7b0 : decide ((rd l0 x3_1) ≤ (rd l0 (ji3))) = true := decide_eq_true c7
     clear c7
     obtain rfl := Option.some.inj H
     have p383 : 0 ≤ ((ji3) : Int) := of_decide_eq_true (by first | (with_reducible assumption) | assumption)
     have q383 : (ji3) < (l0.length : Int) := of_decide_eq_true (by first | (with_reducible assumption) | assumption)
     obtain ⟨ad383, e383, hx383_0⟩ := Kd.at_int HR0.out (ji3) p383 q383
     cases e383
     replace p383 := eq_true p383
     replace q383 := eq_true q383
     have p384 : 0 ≤ (x3_1 : Int) := of_decide_eq_true (by first | (with_reducible assumption) | assumption)
     have q384 : x3_1 < (l0.length : Int) := of_decide_eq_true (by first | (with_reducible assumption) | assumption)
     obtain ⟨ad384, e384, hx384_0⟩ := Kd.at_int HR0.out x3_1 p384 q384
     obtain rfl : ad383 = ad384 := (by injection e384)
     replace p384 := eq_true p384
     replace q384 := eq_true q384
     go_wp2
     repeat (go_quiet (fail); try go_wp2)
     go_ret
     exact ⟨by first | rfl | (simp; done) | (simp only [← hji3] <;> (first | rfl | simp)) | (simp [*]; done), by repeat (first | exact Drawn0.refl _ | apply Drawn0.step)⟩
   rw [if_neg c7] at H
   have c7b0 : decide ((rd l0 x3_1) ≤ (rd l0 (ji3))) = false := decide_eq_false c7
   clear c7
   have H' := Aside0.mk H
   clear H
   have p383 : 0 ≤ ((ji3) : Int) := of_decide_eq_true (by first | (with_reducible assumption) | assumption)
   have q383 : (ji3) < (l0.length : Int) := of_decide_eq_true (by first | (with_reducible assumption) | assumption)
   obtain ⟨ad383, e383, hx383_0⟩ := Kd.at_int HR0.out (ji3) p383 q383
   cases e383
   replace p383 := eq_true p383
   replace q383 := eq_true q383
   have p384 : 0 ≤ (x3_1 : Int) := of_decide_eq_true (by first | (with_reducible assumption) | assumption)
   have q384 : x3_1 < (l0.length : Int) := of_decide_eq_true (by first | (with_reducible assumption) | assumption)
   obtain ⟨ad384, e384, hx384_0⟩ := Kd.at_int HR0.out x3_1 p384 q384
   obtain rfl : ad383 = ad384 := (by injection e384)
   replace p384 := eq_true p384
   replace q384 := eq_true q384
   go_wp2
   repeat (go_quiet (fail); try go_wp2)
   go_roundg k1
   case measure => have := HK1.out; omega
   case rel => exact ⟨(wrap64 (x3_1 + 1)), (by first | rfl | (simp; done) | (simp [*]; done)), H', ⟨by have := HK1.out; omega⟩, by repeat (first | exact Drawn0.refl _ | apply Drawn0.step)⟩

/-! ### laws_contains: function 24 -/
def laws_contains.l0 : Nat → List Int → Int → Int → Option (Bool)
 | 0, _, _, _ => none
 | k + 1, x0, x1, x5 => if x5 < (x0.length : Int) then (if 0 ≤ x5 then (if (rd x0 x5) = x1 then (some true) else (laws_contains.l0 k x0 x1 (wrap64 (x5 + 1)))) else (none)) else (some false)
def laws_contains.f (k : Nat) (l0 : List Int) (a1 : Int) : Option (Bool) := laws_contains.l0 k l0 a1 0
theorem laws_contains.mono_l : ∀ k, (∀ y0 y1 y2, LeO (laws_contains.l0 k y0 y1 y2) (laws_contains.l0 (k + 1) y0 y1 y2))
 | 0 => fun _ _ _ r h => by simp [laws_contains.l0] at h
 | k + 1 => by
  have ih0 := laws_contains.mono_l k
  · intro y0 y1 y2
    unfold laws_contains.l0
    repeat' first
    | (with_reducible exact ih0 _ _ _)
    | (with_reducible exact LeO.refl _)
    | (with_reducible exact LeO.none _)
    | (with_reducible refine LeO.ite ?_ ?_)
    | (with_reducible refine LeO.bind ?_ (fun _ => ?_))
    | exact ih0 _ _ _
    | exact LeO.none _
    | refine LeO.ite ?_ ?_
    | refine LeO.bind ?_ (fun _ => ?_)
theorem laws_contains.mono : ∀ a0 a1 k, LeO (laws_contains.f k a0 a1) (laws_contains.f (k + 1) a0 a1) := by
 intro a0 a1 k
 have ih0 := laws_contains.mono_l k
 unfold laws_contains.f
 repeat' first
  | (with_reducible exact ih0 _ _ _)
  | (with_reducible exact LeO.refl _)
  | (with_reducible exact LeO.none _)
  | (with_reducible refine LeO.ite ?_ ?_)
  | (with_reducible refine LeO.bind ?_ (fun _ => ?_))
  | exact ih0 _ _ _
  | exact LeO.none _
  | refine LeO.ite ?_ ?_
  | refine LeO.bind ?_ (fun _ => ?_)
set_option maxHeartbeats 8000000 in
set_option maxRecDepth 100000 in
theorem laws_contains.calls (k : Nat) (A0 : Option Addr) (c0 : Nat) (l0 : List Int) (a1 : Int) (r : Bool) (w : World) (hr0 : Kd.C (Kd.int .i64) w A0 l0.length l0) (hc0 : l0.length ≤ c0) (h : laws_contains.f k l0 a1 = some r) :
 Calls Try.prog 24 #[.slice A0 l0.length c0, .int .i64 a1] w fun e w' => e = .returned (.bool r) ∧ Drawn0 w w' := by
 have HR0 := Aside0.mk hr0
 have HC0 := Aside0.mk hc0
 clear hr0 hc0
 have H : (laws_contains.l0 k l0 a1 0) = some r := h
 clear h
 have H' := Aside0.mk H
 clear H
 go_enter Try.func24, Try.ntmps24
 go_wp2
 go_loopg [5] k (fun kq v5 w' => ∃ (x5_1 : Int), v5 = .int .i64 x5_1 ∧ Aside0 (laws_contains.l0 kq l0 a1 x5_1 = some r) ∧ Aside0 (kq ≤ k) ∧ Drawn0 w w')
 case atStart => exact ⟨(0), (by first | rfl | (simp; done) | (simp [*]; done)), H', ⟨Nat.le_refl _⟩, by repeat (first | exact Drawn0.refl _ | apply Drawn0.step)⟩
 case round =>
  clear H'
  try clear c2
  try clear p2
  obtain ⟨x5_1, rfl, HA, HK1, ⟨m1, rfl⟩⟩ := hrel
  cases gk with
  | zero => exact absurd HA.out (by simp [laws_contains.l0])
  | succ k1 =>
   have H := HA.out
   clear HA
   simp only [laws_contains.l0] at H
   by_cases c3 : x5_1 < (l0.length : Int)
   rotate_left
   · rw [if_neg c3] at H
     have c3b0 : decide (x5_1 < (l0.length : Int)) = false := decide_eq_false c3
     clear c3
     obtain rfl := Option.some.inj H
     go_wp2
     go_ret
     exact ⟨by first | rfl | (simp; done) | (simp [*]; done), by repeat (first | exact Drawn0.refl _ | apply Drawn0.step)⟩
   rw [if_pos c3] at H
   have c3b0 : decide (x5_1 < (l0.length : Int)) = true := decide_eq_true c3
   clear c3
   by_cases c4 : 0 ≤ x5_1
   rotate_left
   · rw [if_neg c4] at H
     exact absurd H (by simp)
   rw [if_pos c4] at H
   have c4b0 : decide (0 ≤ x5_1) = true := decide_eq_true c4
   clear c4
   by_cases c5 : (rd l0 x5_1) = a1
   · rw [if_pos c5] at H
     have c5b0 : ((rd l0 x5_1) == a1) = true := beq_iff_eq.mpr c5
     have c5b1 : ((rd l0 x5_1) != a1) = false := bne_eq_false_iff_eq.mpr c5
     clear c5
     obtain rfl := Option.some.inj H
     have p385 : 0 ≤ (x5_1 : Int) := of_decide_eq_true (by first | (with_reducible assumption) | assumption)
     have q385 : x5_1 < (l0.length : Int) := of_decide_eq_true (by first | (with_reducible assumption) | assumption)
     obtain ⟨ad385, e385, hx385_0⟩ := Kd.at_int HR0.out x5_1 p385 q385
     cases e385
     replace p385 := eq_true p385
     replace q385 := eq_true q385
     go_wp2
     go_ret
     exact ⟨by first | rfl | (simp; done) | (simp [*]; done), by repeat (first | exact Drawn0.refl _ | apply Drawn0.step)⟩
   rw [if_neg c5] at H
   have c5b0 : ((rd l0 x5_1) == a1) = false := beq_eq_false_iff_ne.mpr c5
   have c5b1 : ((rd l0 x5_1) != a1) = true := bne_iff_ne.mpr c5
   have H' := Aside0.mk H
   clear H
   have p385 : 0 ≤ (x5_1 : Int) := of_decide_eq_true (by first | (with_reducible assumption) | assumption)
   have q385 : x5_1 < (l0.length : Int) := of_decide_eq_true (by first | (with_reducible assumption) | assumption)
   obtain ⟨ad385, e385, hx385_0⟩ := Kd.at_int HR0.out x5_1 p385 q385
   cases e385
   replace p385 := eq_true p385
   replace q385 := eq_true q385
   go_wp2
   go_roundg k1
   case measure => have := HK1.out; omega
   case rel => exact ⟨(wrap64 (x5_1 + 1)), (by first | rfl | (simp; done) | (simp [*]; done)), H', ⟨by have := HK1.out; omega⟩, by repeat (first | exact Drawn0.refl _ | apply Drawn0.step)⟩

/-! ### laws_within: function 22 -/
def laws_within.l0 : Nat → List Int → List Int → Int → Option (Bool)
 | 0, _, _, _ => none
 | k + 1, x0, x1, x5 => if x5 < (x0.length : Int) then (if 0 ≤ x5 then ((laws_contains.f k x1 (rd x0 x5)).bind fun t387 => (if t387 = true then (laws_within.l0 k x0 x1 (wrap64 (x5 + 1))) else (some false))) else (none)) else (some true)
def laws_within.f (k : Nat) (l0 : List Int) (l1 : List Int) : Option (Bool) := laws_within.l0 k l0 l1 0
theorem laws_within.mono_l : ∀ k, (∀ y0 y1 y2, LeO (laws_within.l0 k y0 y1 y2) (laws_within.l0 (k + 1) y0 y1 y2))
 | 0 => fun _ _ _ r h => by simp [laws_within.l0] at h
 | k + 1 => by
  have ih0 := laws_within.mono_l k
  · intro y0 y1 y2
    unfold laws_within.l0
    repeat' first
    | (with_reducible exact ih0 _ _ _)
    | (with_reducible exact laws_contains.mono _ _ _)
    | (with_reducible exact LeO.refl _)
    | (with_reducible exact LeO.none _)
    | (with_reducible refine LeO.ite ?_ ?_)
    | (with_reducible refine LeO.bind ?_ (fun _ => ?_))
    | exact ih0 _ _ _
    | exact laws_contains.mono _ _ _
    | exact LeO.none _
    | refine LeO.ite ?_ ?_
    | refine LeO.bind ?_ (fun _ => ?_)
theorem laws_within.mono : ∀ a0 a1 k, LeO (laws_within.f k a0 a1) (laws_within.f (k + 1) a0 a1) := by
 intro a0 a1 k
 have ih0 := laws_within.mono_l k
 unfold laws_within.f
 repeat' first
  | (with_reducible exact ih0 _ _ _)
  | (with_reducible exact laws_contains.mono _ _ _)
  | (with_reducible exact LeO.refl _)
  | (with_reducible exact LeO.none _)
  | (with_reducible refine LeO.ite ?_ ?_)
  | (with_reducible refine LeO.bind ?_ (fun _ => ?_))
  | exact ih0 _ _ _
  | exact laws_contains.mono _ _ _
  | exact LeO.none _
  | refine LeO.ite ?_ ?_
  | refine LeO.bind ?_ (fun _ => ?_)
set_option maxHeartbeats 8000000 in
set_option maxRecDepth 100000 in
theorem laws_within.calls (k : Nat) (A0 : Option Addr) (c0 : Nat) (l0 : List Int) (A1 : Option Addr) (c1 : Nat) (l1 : List Int) (r : Bool) (w : World) (hr0 : Kd.C (Kd.int .i64) w A0 l0.length l0) (hc0 : l0.length ≤ c0) (hr1 : Kd.C (Kd.int .i64) w A1 l1.length l1) (hc1 : l1.length ≤ c1) (h : laws_within.f k l0 l1 = some r) :
 Calls Try.prog 22 #[.slice A0 l0.length c0, .slice A1 l1.length c1] w fun e w' => e = .returned (.bool r) ∧ Drawn0 w w' := by
 have HR0 := Aside0.mk hr0
 have HC0 := Aside0.mk hc0
 clear hr0 hc0
 have HR1 := Aside0.mk hr1
 have HC1 := Aside0.mk hc1
 clear hr1 hc1
 have H : (laws_within.l0 k l0 l1 0) = some r := h
 clear h
 have H' := Aside0.mk H
 clear H
 go_enter Try.func22, Try.ntmps22
 go_wp2
 go_loopg [5] k (fun kq v5 w' => ∃ (x5_1 : Int), v5 = .int .i64 x5_1 ∧ Aside0 (laws_within.l0 kq l0 l1 x5_1 = some r) ∧ Aside0 (kq ≤ k) ∧ Drawn0 w w')
 case atStart => exact ⟨(0), (by first | rfl | (simp; done) | (simp [*]; done)), H', ⟨Nat.le_refl _⟩, by repeat (first | exact Drawn0.refl _ | apply Drawn0.step)⟩
 case round =>
  clear H'
  try clear c1
  try clear c2
  try clear p2
  obtain ⟨x5_1, rfl, HA, HK1, ⟨m1, rfl⟩⟩ := hrel
  cases gk with
  | zero => exact absurd HA.out (by simp [laws_within.l0])
  | succ k1 =>
   have H := HA.out
   clear HA
   simp only [laws_within.l0] at H
   by_cases c3 : x5_1 < (l0.length : Int)
   rotate_left
   · rw [if_neg c3] at H
     have c3b0 : decide (x5_1 < (l0.length : Int)) = false := decide_eq_false c3
     clear c3
     obtain rfl := Option.some.inj H
     go_wp2
     go_ret
     exact ⟨by first | rfl | (simp; done) | (simp [*]; done), by repeat (first | exact Drawn0.refl _ | apply Drawn0.step)⟩
   rw [if_pos c3] at H
   have c3b0 : decide (x5_1 < (l0.length : Int)) = true := decide_eq_true c3
   clear c3
   by_cases c4 : 0 ≤ x5_1
   rotate_left
   · rw [if_neg c4] at H
     exact absurd H (by simp)
   rw [if_pos c4] at H
   have c4b0 : decide (0 ≤ x5_1) = true := decide_eq_true c4
   clear c4
   replace H := Option.bind_eq_some_iff.mp H
   obtain ⟨t387, A50, H⟩ := H
   have A5 := Aside0.mk A50
   clear A50
   by_cases c6 : t387 = true
   rotate_left
   · replace c6 := Bool.eq_false_iff.mpr c6
     subst c6
     rw [if_neg (show ¬ (false = true) by decide)] at H
     obtain rfl := Option.some.inj H
     have p386 : 0 ≤ (x5_1 : Int) := of_decide_eq_true (by first | (with_reducible assumption) | assumption)
     have q386 : x5_1 < (l0.length : Int) := of_decide_eq_true (by first | (with_reducible assumption) | assumption)
     obtain ⟨ad386, e386, hx386_0⟩ := Kd.at_int HR0.out x5_1 p386 q386
     cases e386
     replace p386 := eq_true p386
     replace q386 := eq_true q386
     go_wp2_with (first | ((with_reducible refine gate_callee (f := 24) rfl ?_); refine goesL_ (some 17) rfl rfl Try.func24 (by kernel_rfl) rfl #[.slice A1 l1.length c1, .int .i64 (rd l0 x5_1)] rfl (by (try simp only [List.map_toArray, List.map_cons, List.map_nil]); first | done | rfl | (simp only [List.length_drop, List.length_take]; rfl)) ?_; (with_reducible refine (laws_contains.calls k1 _ _ l1 (rd l0 x5_1) false _ ?side1 ?side2 A5.out).mono ?_); (case side1 => exact Kd.C_up HR1.out); (case side2 => exact HC1.out); rintro e w' ⟨rfl, ⟨nd, rfl⟩⟩; refine ⟨_, rfl, ?_⟩))
     go_ret
     exact ⟨by first | rfl | (simp; done) | (simp [*]; done), by repeat (first | exact Drawn0.refl _ | apply Drawn0.step)⟩
   subst c6
   rw [if_pos rfl] at H
   have H' := Aside0.mk H
   clear H
   have p386 : 0 ≤ (x5_1 : Int) := of_decide_eq_true (by first | (with_reducible assumption) | assumption)
   have q386 : x5_1 < (l0.length : Int) := of_decide_eq_true (by first | (with_reducible assumption) | assumption)
   obtain ⟨ad386, e386, hx386_0⟩ := Kd.at_int HR0.out x5_1 p386 q386
   cases e386
   replace p386 := eq_true p386
   replace q386 := eq_true q386
   go_wp2_with (first | ((with_reducible refine gate_callee (f := 24) rfl ?_); refine goesL_ (some 17) rfl rfl Try.func24 (by kernel_rfl) rfl #[.slice A1 l1.length c1, .int .i64 (rd l0 x5_1)] rfl (by (try simp only [List.map_toArray, List.map_cons, List.map_nil]); first | done | rfl | (simp only [List.length_drop, List.length_take]; rfl)) ?_; (with_reducible refine (laws_contains.calls k1 _ _ l1 (rd l0 x5_1) true _ ?side1 ?side2 A5.out).mono ?_); (case side1 => exact Kd.C_up HR1.out); (case side2 => exact HC1.out); rintro e w' ⟨rfl, ⟨nd, rfl⟩⟩; refine ⟨_, rfl, ?_⟩))
   go_roundg k1
   case measure => have := HK1.out; omega
   case rel => exact ⟨(wrap64 (x5_1 + 1)), (by first | rfl | (simp; done) | (simp [*]; done)), H', ⟨by have := HK1.out; omega⟩, by repeat (first | exact Drawn0.refl _ | apply Drawn0.step)⟩

/-! ### spec_l4Raw: function 78 -/
def spec_l4Raw.f (s0_0 : List Int) (s0_1 : Int) (s0_2 : Int) : Option (Int × Int × Int) := (spec_l1Int.f s0_0 s0_1 s0_2 (([(-1), 0, 8, 9, 64, 9223372036854775807, (-9223372036854775808)] : List Int))).bind fun bt391 => (some (bt391.1, bt391.2.1, bt391.2.2))
set_option maxHeartbeats 8000000 in
set_option maxRecDepth 100000 in
theorem spec_l4Raw.calls (g : Nat) (s0_0 : List Int) (s0_1 : Int) (s0_2 : Int) (r1 : Int) (r2 : Int) (r3 : Int) (w0 w : World) (hI : IsS87 w0 w g s0_0 s0_1 s0_2) (hB : Below w0.heap.size w0 w) (h : spec_l4Raw.f s0_0 s0_1 s0_2 = some (r1, r2, r3)) :
 Calls Try.prog 78 #[.pointer (some ⟨g, 0, none⟩)] w fun e w' => e = .returned (.int .i64 r1) ∧ IsS87 w0 w' g s0_0 r2 r3 ∧ Below w0.heap.size w0 w' ∧ KeepBut w w' g none := by
 have HI0 := Aside0.mk hI
 have HK := Aside0.mk (KeepBut.refl w g none)
 have HL := Aside0.mk hB.size
 clear hI
 have HW0 := Aside0.mk hB.size
 have HB := Aside0.mk hB
 clear hB
 have H : ((spec_l1Int.f s0_0 s0_1 s0_2 (([(-1), 0, 8, 9, 64, 9223372036854775807, (-9223372036854775808)] : List Int))).bind fun bt391 => (some (bt391.1, bt391.2.1, bt391.2.2))) = some (r1, r2, r3) := h
 clear h
 obtain ⟨y388, hy388⟩ : ∃ y_ : List Int, y_ = (([(-1), 0, 8, 9, 64, 9223372036854775807, (-9223372036854775808)] : List Int)) := ⟨_, rfl⟩
 replace H : ((spec_l1Int.f s0_0 s0_1 s0_2 y388).bind fun bt391 => (some (bt391.1, bt391.2.1, bt391.2.2))) = some (r1, r2, r3) := by first | (rw [hy388]; with_reducible exact H) | (have H2_ := (Option.bind_some _ _).symm.trans H; rw [hy388]; with_reducible exact H2_) | (have H2_ := (Option.bind_some _ _).symm.trans H; with_reducible exact H2_) | with_reducible exact H | (rw [hy388]; exact H) | exact H
 have Ny388 := Aside0.mk hy388
 clear hy388
 replace H := Option.bind_eq_some_iff.mp H
 obtain ⟨⟨t391, t392, t393⟩, A20, H⟩ := H
 dsimp only at H
 have A2 := Aside0.mk A20
 clear A20
 simp only [Option.some.injEq, Prod.mk.injEq] at H
 obtain ⟨rfl, rfl, rfl⟩ := H
 go_enter Try.func78, Try.ntmps78
 go_wp2_with (first | ((with_reducible refine gate_dst (N := 4) rfl ?_); refine Kd.R_lit (Kd.int .i64) _ 3 ?hg (N := 4) ?hd (xs := ([(-1), 0, 8, 9, 64, 9223372036854775807, (-9223372036854775808)] : List Int)) (inner := [.int .i64 (-1), .int .i64 0, .int .i64 8, .int .i64 9, .int .i64 64, .int .i64 9223372036854775807, .int .i64 (-9223372036854775808)]) (ok := fun _ => True) (okp := fun _ => True) ?hr ?hp (fun _ hk => hk) trivial (Below.refl _ _) (Nat.le_refl _) (by simp) ?_; (case hd => rfl); (case hg => rfl); (case hr => first | (go_simp; done) | (go_simp; rfl)); (case hp => exact (Reps.one (show Kd.M (Kd.int .i64) _ _ _ (-1) [.int .i64 (-1)] from rfl) (Reps.one (show Kd.M (Kd.int .i64) _ _ _ 0 [.int .i64 0] from rfl) (Reps.one (show Kd.M (Kd.int .i64) _ _ _ 8 [.int .i64 8] from rfl) (Reps.one (show Kd.M (Kd.int .i64) _ _ _ 9 [.int .i64 9] from rfl) (Reps.one (show Kd.M (Kd.int .i64) _ _ _ 64 [.int .i64 64] from rfl) (Reps.one (show Kd.M (Kd.int .i64) _ _ _ 9223372036854775807 [.int .i64 9223372036854775807] from rfl) (Reps.one (show Kd.M (Kd.int .i64) _ _ _ (-9223372036854775808) [.int .i64 (-9223372036854775808)] from rfl) (Reps.none _ _))))))))); intro v389 w3 ho4 hb hg_ hnew_; clear hg_ hnew_; (first | rw [← Ny388.out] at ho4 | (simp only [Int.reduceToNat] at ho4; rw [← Ny388.out] at ho4)); have n0_ := Aside0.mk (Kd.R_lower ho4 (keep_size (w := w) (g := g) (row := none) (by repeat (first | (with_reducible first | exact HK.out | apply KeepBut.set_ | apply keep_drewN | apply keep_drew | apply keep_alloc) | exact HK.out)))); have n1_ := Aside0.mk (IsS87.below (by repeat (first | (with_reducible first | exact HI0.out | apply IsS87.alloc | apply IsS87.drewN | apply IsS87.drew | apply IsS87.set_1 | apply IsS87.set_2) | exact HI0.out)) hb); have n2_ := Aside0.mk (KeepBut.trans (by repeat (first | (with_reducible first | exact HK.out | apply KeepBut.set_ | apply keep_drewN | apply keep_drew | apply keep_alloc) | exact HK.out)) (KeepBut.of_below hb g none) (.inl rfl)); have n3_ := Aside0.mk (below_step (by repeat (first | (with_reducible first | exact HB.out | apply below_alloc | apply pw_below_drewN | apply below_drew1 | refine below_set ?_ (IsS87.ge HI0.out)) | exact HB.out)) hb); clear HI0; clear HK; clear HB; have HO390 := n0_; have HI0 := n1_; have HK := n2_; have HB := n3_; clear n0_ n1_ n2_ n3_; clear hb ho4; obtain ⟨Ao5, co5, eo5⟩ := Kd.R_slice HO390.out; subst eo5) | ((with_reducible refine gate_callee (f := 75) rfl ?_); refine goesL_ (some 5) rfl rfl Try.func75 (by kernel_rfl) rfl #[.pointer (some ⟨g, 0, none⟩), .slice Ao5 y388.length co5] rfl (by (try simp only [List.map_toArray, List.map_cons, List.map_nil]); first | done | rfl | (simp only [List.length_drop, List.length_take]; rfl)) ?_; (with_reducible refine (spec_l1Int.calls g s0_0 s0_1 s0_2 _ _ y388 t391 t392 t393 w0 _ ?side1 ?side2 ?side3 ?side4 ?side5 A2.out).mono ?_); (case side1 => repeat (first | (with_reducible first | exact HI0.out | apply IsS87.alloc | apply IsS87.drewN | apply IsS87.drew | apply IsS87.set_1 | apply IsS87.set_2) | exact HI0.out)); (case side2 => repeat (first | (with_reducible first | exact HB.out | apply below_alloc | apply pw_below_drewN | apply below_drew1 | refine below_set ?_ (IsS87.ge HI0.out)) | exact HB.out)); (case side3 => exact Kd.C_up ((Kd.R_reads' HO390.out).2.2)); (case side4 => exact (Kd.R_reads' HO390.out).2.1); (case side5 => exact far_slice (IsS87.own_ne HI0.out HO390.out (by decide))); rintro e w6 ⟨rfl, hi, hb, hk⟩; refine ⟨_, rfl, ?_⟩; have n0_ := Aside0.mk (Kd.R_mono (Kd.R_keep (IsS87.apart (show IsS87 w0 _ g s0_0 s0_1 s0_2 from by repeat (first | (with_reducible first | exact HI0.out | apply IsS87.alloc | apply IsS87.drewN | apply IsS87.drew | apply IsS87.set_1 | apply IsS87.set_2) | exact HI0.out)) (Kd.R_up HO390.out) (by decide)) hk (fun _ h => h.2)) (fun _ h => h.1)); have n1_ := Aside0.mk (KeepBut.trans (by repeat (first | (with_reducible first | exact HK.out | apply KeepBut.set_ | apply keep_drewN | apply keep_drew | apply keep_alloc) | exact HK.out)) hk (.inl rfl)); have n2_ := Aside0.mk (hb); have n3_ := Aside0.mk (hi); clear HO390; clear HK; clear HB; clear HI0; have HO390 := n0_; have HK := n1_; have HB := n2_; have HI0 := n3_; clear n0_ n1_ n2_ n3_; (try clear hb); (try clear hb2); (try clear hk); (try clear hi)))
 go_ret
 exact ⟨by first | rfl | (simp [errW_none, errW_some] <;> rfl) | (simp [*, errW_none, errW_some] <;> rfl), by repeat (first | (with_reducible first | exact HI0.out | apply IsS87.alloc | apply IsS87.drewN | apply IsS87.drew | apply IsS87.set_1 | apply IsS87.set_2) | exact HI0.out), by repeat (first | (with_reducible first | exact HB.out | apply below_alloc | apply pw_below_drewN | apply below_drew1 | refine below_set ?_ (IsS87.ge HI0.out)) | exact HB.out), by repeat (first | (with_reducible first | exact HK.out | apply KeepBut.set_ | apply keep_drewN | apply keep_drew | apply keep_alloc) | exact HK.out)⟩

end Go.Proofs.Ytdgpnmbmnnmdcab.PFnPlaces
