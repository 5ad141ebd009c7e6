/- Contracts of Go functions: what print.sh prints, written shorter by short.py. -/
import Derived.Test.YtdgpnmbmnnmdcaaUp
import Derived.Test.YtdgpnmbmnnmdcaaPFnDepotsx0
import Derived.Test.YtdgpnmbmnnmdcaaPFnDepotsx6
import Derived.Test.YtdgpnmbmnnmdcaaPFnDepotsx9
import Derived.Test.YtdgpnmbmnnmdcaaPFnDepotsx10
import Derived.Test.YtdgpnmbmnnmdcaaPFnDepotsx11
namespace Go.Proofs.Ytdgpnmbmnnmdcaa.PFnDepots
open Go.RowKit Go.Proofs.YtdgpnmbmnnmdcaaW.PrintWords Go.Proofs.YtdgpnmbmnnmdcaaW.PrintLast Go.Proofs.YtdgpnmbmnnmdcaaW.PrintMore
attribute [local go_sem] max2_int min2_int max_two min_two max_three min_three max_four min_four   -- for this text's walks alone
set_option linter.unusedVariables false
set_option linter.unusedSimpArgs false

/-! ### spec_DrawTake: function 43 -/
def spec_DrawTake.j0 : Nat → List (S66) → Int → Bool → List Int → Int → Int → Int → Int → List Int → Option (Int × Int × List Int × (List (S66)) × Int × Int)
 | 0, _, _, _, _, _, _, _, _, _ => none
 | k + 1, x8, x9, x26, x387000, x387001, x387002, x398000, x398001, x398002 => if x26 = true then (if 0 < (x8.length : Int) then ((spec_FoodAt.f k x8 ((rd_T66 x8 0).f0)).bind fun t405 => ((spec_FoodAt.f k x8 ((rd_T66 x8 0).f0)).bind fun t406 => ((spec_l1Int.f x387000 x387001 x387002 (([1, 3, t405, wrap64 (t406 + 1), 0] : List Int))).bind fun bt410 => (some (x398000, x398001, x398002, x8, (rd_T66 x8 0).f0, bt410.1))))) else (none)) else ((spec_FoodAt.f k x8 x9).bind fun t413 => ((spec_FoodAt.f k x8 x9).bind fun t414 => ((spec_l1Int.f x387000 x387001 x387002 (([1, 3, t413, wrap64 (t414 + 1), 0] : List Int))).bind fun bt418 => (some (x398000, x398001, x398002, x8, x9, bt418.1)))))
def spec_DrawTake.f (k : Nat) (l0 : List Int) : Option (Int × Int × List Int × (List (S66)) × Int × Int) := (spec_l1New.f k l0).bind fun bt383 => ((spec_l8Any.f k bt383.1 bt383.2.1 bt383.2.2).bind fun bt387 => ((spec_l1Below.f bt383.1 bt387.2.2.2.2.1 bt387.2.2.2.2.2 22).bind fun bt398 => (if (bt387.2.2.2.1.length : Int) > 0 then ((spec_l1Once.f bt383.1 bt398.2.1 bt398.2.2 4).bind fun bt401 => (spec_DrawTake.j0 k bt387.2.2.2.1 bt398.1 (!bt401.1) bt383.1 bt401.2.1 bt401.2.2 bt387.1 bt387.2.1 bt387.2.2.1)) else (spec_DrawTake.j0 k bt387.2.2.2.1 bt398.1 false bt383.1 bt398.2.1 bt398.2.2 bt387.1 bt387.2.1 bt387.2.2.1))))
theorem spec_DrawTake.mono_l : ∀ k, (∀ y0 y1 y2 y3 y4 y5 y6 y7 y8, LeO (spec_DrawTake.j0 k y0 y1 y2 y3 y4 y5 y6 y7 y8) (spec_DrawTake.j0 (k + 1) y0 y1 y2 y3 y4 y5 y6 y7 y8))
 | 0 => fun _ _ _ _ _ _ _ _ _ r h => by simp [spec_DrawTake.j0] at h
 | k + 1 => by
  have ih0 := spec_DrawTake.mono_l k
  · intro y0 y1 y2 y3 y4 y5 y6 y7 y8
    unfold spec_DrawTake.j0
    repeat' first
    | (with_reducible exact ih0 _ _ _ _ _ _ _ _ _)
    | (with_reducible exact spec_FoodAt.mono _ _ _)
    | (with_reducible exact spec_l1New.mono _ _)
    | (with_reducible exact spec_l8Any.mono _ _ _ _)
    | (with_reducible exact LeO.refl _)
    | (with_reducible exact LeO.none _)
    | (with_reducible refine LeO.ite ?_ ?_)
    | (with_reducible refine LeO.bind ?_ (fun _ => ?_))
    | exact ih0 _ _ _ _ _ _ _ _ _
    | exact spec_FoodAt.mono _ _ _
    | exact spec_l1New.mono _ _
    | exact spec_l8Any.mono _ _ _ _
    | exact LeO.none _
    | refine LeO.ite ?_ ?_
    | refine LeO.bind ?_ (fun _ => ?_)
theorem spec_DrawTake.mono : ∀ a0 k, LeO (spec_DrawTake.f k a0) (spec_DrawTake.f (k + 1) a0) := by
 intro a0 k
 have ih0 := spec_DrawTake.mono_l k
 unfold spec_DrawTake.f
 repeat' first
  | (with_reducible exact ih0 _ _ _ _ _ _ _ _ _)
  | (with_reducible exact spec_FoodAt.mono _ _ _)
  | (with_reducible exact spec_l1New.mono _ _)
  | (with_reducible exact spec_l8Any.mono _ _ _ _)
  | (with_reducible exact LeO.refl _)
  | (with_reducible exact LeO.none _)
  | (with_reducible refine LeO.ite ?_ ?_)
  | (with_reducible refine LeO.bind ?_ (fun _ => ?_))
  | exact ih0 _ _ _ _ _ _ _ _ _
  | exact spec_FoodAt.mono _ _ _
  | exact spec_l1New.mono _ _
  | exact spec_l8Any.mono _ _ _ _
  | exact LeO.none _
  | refine LeO.ite ?_ ?_
  | refine LeO.bind ?_ (fun _ => ?_)
def spec_DrawTake.T6 : Bool × List (List Nat × List Nat) := (true, [([], []), ([], []), ([], []), ([], []), ([], []), ([], []), ([4, 5], [4, 5]), ([], []), ([], []), ([7, 8, 6], [7, 8]), ([9], [9]), ([6, 10], [6, 10]), ([3, 11, 9], [3, 11]), ([0, 12, 0], [0]), ([1, 13, 0, 1, 13], [1]), ([2, 14, 0, 1, 2, 13, 14], [2]), ([12, 15, 0, 1, 2, 3, 4, 5, 6, 7, 8, 9, 10, 11, 12, 13, 14, 15], [12])])
def spec_DrawTake.B6 : List Nat := [0, 0, 0, 0, 0, 0, 48, 0, 0, 496, 1008, 2032, 4088, 8185, 16379, 32767, 65535]
theorem spec_DrawTake.tab6 : rtab .any (opsOf Try.f43 6) = spec_DrawTake.T6 := by kernel_rfl
theorem spec_DrawTake.bits6 : waitsOk spec_DrawTake.T6.2 spec_DrawTake.B6 = true := by kernel_rfl
set_option maxHeartbeats 8000000 in
set_option maxRecDepth 100000 in
theorem spec_DrawTake.calls (k : Nat) (A0 : Option Addr) (c0 : Nat) (l0 : List Int) (r1 : Int) (r2 : Int) (r3 : List Int) (r4 : List (S66)) (r5 : Int) (r6 : Int) (w : World) (hr0 : Kd.C (Kd.int .u8) w A0 l0.length l0) (hc0 : l0.length ≤ c0) (h : spec_DrawTake.f k l0 = some (r1, r2, r3, r4, r5, r6)) :
 Calls Try.prog 43 #[.slice A0 l0.length c0] w fun e w' => ∃ v2_ v3_ : Value, e = .returned (.tuple #[.agg #[.int .i64 r1, .int .i64 r2, v2_], v3_, .int .i64 r5, .int .i64 r6]) ∧ Kd.Q (Kd.int .i64) 3 w' w.heap.size (fun _ => True) v2_ r3 ∧ Kd.R k66 66 w' w.heap.size (fun _ => True) v3_ r4 ∧ Below w.heap.size w w' := by
 have hu43 := Try.underlying43
 have HR0 := Aside0.mk hr0
 have HC0 := Aside0.mk hc0
 clear hr0 hc0
 have HB := Aside0.mk (Below.refl w.heap.size w)
 have H : ((spec_l1New.f k l0).bind fun bt383 => ((spec_l8Any.f k bt383.1 bt383.2.1 bt383.2.2).bind fun bt387 => ((spec_l1Below.f bt383.1 bt387.2.2.2.2.1 bt387.2.2.2.2.2 22).bind fun bt398 => (if (bt387.2.2.2.1.length : Int) > 0 then ((spec_l1Once.f bt383.1 bt398.2.1 bt398.2.2 4).bind fun bt401 => (spec_DrawTake.j0 k bt387.2.2.2.1 bt398.1 (!bt401.1) bt383.1 bt401.2.1 bt401.2.2 bt387.1 bt387.2.1 bt387.2.2.1)) else (spec_DrawTake.j0 k bt387.2.2.2.1 bt398.1 false bt383.1 bt398.2.1 bt398.2.2 bt387.1 bt387.2.1 bt387.2.2.1))))) = some (r1, r2, r3, r4, r5, r6) := h
 clear h
 replace H := Option.bind_eq_some_iff.mp H
 obtain ⟨⟨t383, t384, t385⟩, A20, H⟩ := H
 dsimp only at H
 have A2 := Aside0.mk A20
 clear A20
 replace H := Option.bind_eq_some_iff.mp H
 obtain ⟨⟨t387, t388, t389, t392, t395, t396⟩, A30, H⟩ := H
 dsimp only at H
 have A3 := Aside0.mk A30
 clear A30
 replace H := Option.bind_eq_some_iff.mp H
 obtain ⟨⟨t398, t399, t400⟩, A40, H⟩ := H
 dsimp only at H
 have A4 := Aside0.mk A40
 clear A40
 have HC5 := Aside0.mk H
 clear H
 go_enter Try.func43, Try.ntmps43
 go_upto_region 4 with (first | ((with_reducible refine gate_dst (N := 2) rfl ?_); refine box_event ?hg (N := 2) ?hd (cs := #[.int .i64 0, .int .i64 0, .slice none 0 0]) (t := 43) ?hr ?_; (case hd => rfl); (case hg => rfl); (case hr => first | (go_simp; done) | (go_simp; rfl)); intro gb382 hg w6 hbox hb; have n0_ := Aside0.mk (below_step (below_up HB.out) hb); have n1_ := Aside0.mk (hbox); have n2_ := Aside0.mk ((by rw [hg]; exact (below_size (below_up HB.out)) : w.heap.size ≤ gb382)); have n3_ := Aside0.mk ((by rw [hg]; exact (below_size (below_up HB.out)) : w.heap.size ≤ gb382)); clear HB; have HB := n0_; have BK382 := n1_; have GW382 := n2_; have GE382 := n3_; clear n0_ n1_ n2_ n3_; clear hb hbox hg) | ((with_reducible refine gate_callee (f := 51) rfl ?_); refine goesL_ (some 11) rfl rfl Try.func51 (by kernel_rfl) rfl #[.slice A0 l0.length c0] rfl (by (try simp only [List.map_toArray, List.map_cons, List.map_nil]); first | done | rfl | (simp only [List.length_drop, List.length_take]; rfl)) ?_; (with_reducible refine (spec_l1New.calls k _ _ l0 t383 t384 t385 w _ ?side1 ?side2 ?side3 A2.out).mono ?_); (case side1 => repeat (first | (with_reducible first | exact HB.out | apply below_alloc | apply pw_below_drewN | apply below_drew1 | refine below_set ?_ GE382.out) | exact HB.out)); (case side2 => exact HR0.out); (case side3 => exact HC0.out); rintro e w7 ⟨g386, rfl, hi, hb, hb2⟩; refine ⟨_, rfl, ?_⟩; have n0_ := Aside0.mk (blk_below (g := gb382) (o := .cells #[.int .i64 0, .int .i64 0, .slice none 0 0] 43 (0, 0)) (blk_up BK382.out) hb2); have n1_ := Aside0.mk (hb); have n2_ := Aside0.mk (hi); have n3_ := Aside0.mk (IsS93.ne_blk hi (blk_below (g := gb382) (o := .cells #[.int .i64 0, .int .i64 0, .slice none 0 0] 43 (0, 0)) (blk_up BK382.out) hb2) (by decide)); have n4_ := Aside0.mk (Ne.symm (IsS93.ne_blk hi (blk_below (g := gb382) (o := .cells #[.int .i64 0, .int .i64 0, .slice none 0 0] 43 (0, 0)) (blk_up BK382.out) hb2) (by decide))); clear BK382; clear HB; have BK382 := n0_; have HB := n1_; have HI386 := n2_; have NB386_382 := n3_; have NB382_386 := n4_; clear n0_ n1_ n2_ n3_ n4_; (try clear hb); (try clear hb2); (try clear hk); (try clear hi)) | ((with_reducible refine gate_callee (f := 69) rfl ?_); refine goesL_ (some 14) rfl rfl Try.func69 (by kernel_rfl) rfl #[.pointer (some ⟨g386, 0, none⟩)] rfl (by (try simp only [List.map_toArray, List.map_cons, List.map_nil]); first | done | rfl | (simp only [List.length_drop, List.length_take]; rfl)) ?_; (with_reducible refine (spec_l8Any.calls k g386 t383 t384 t385 t387 t388 t389 t392 t395 t396 w _ ?side1 ?side2 A3.out).mono ?_); (case side1 => repeat (first | (with_reducible first | exact HI386.out | apply IsS93.alloc | apply IsS93.drewN | apply IsS93.drew | apply IsS93.set_1 | apply IsS93.set_2 | refine IsS93.far ?_ NB386_382.out _) | exact HI386.out)); (case side2 => repeat (first | (with_reducible first | exact HB.out | apply below_alloc | apply pw_below_drewN | apply below_drew1 | refine below_set ?_ (IsS93.ge HI386.out) | refine below_set ?_ GE382.out) | exact HB.out)); rintro e w8 ⟨v390, v393, rfl, ho0, ho1, hi, hb, hk⟩; refine ⟨_, rfl, ?_⟩; have n0_ := Aside0.mk (KeepBut.blk hk (g' := gb382) (o := .cells #[.int .i64 0, .int .i64 0, .slice none 0 0] 43 (0, 0)) (blk_up BK382.out) NB382_386.out (by simp)); have n1_ := Aside0.mk (Kd.Q_lower ho0 (below_size (by repeat (first | (with_reducible first | exact HB.out | apply below_alloc | apply pw_below_drewN | apply below_drew1 | refine below_set ?_ (IsS93.ge HI386.out) | refine below_set ?_ GE382.out) | exact HB.out)))); have n2_ := Aside0.mk (Kd.R_lower ho1 (below_size (by repeat (first | (with_reducible first | exact HB.out | apply below_alloc | apply pw_below_drewN | apply below_drew1 | refine below_set ?_ (IsS93.ge HI386.out) | refine below_set ?_ GE382.out) | exact HB.out)))); have n3_ := Aside0.mk (hb); have n4_ := Aside0.mk (hi); clear BK382; clear HB; clear HI386; have BK382 := n0_; have HO391 := n1_; have HO394 := n2_; have HB := n3_; have HI386 := n4_; clear n0_ n1_ n2_ n3_ n4_; (try clear hb); (try clear hb2); (try clear hk); (try clear hi); (try clear ho0); (try clear ho1)) | ((with_reducible refine gate_dst (N := 7) rfl ?_); refine box_event ?hg (N := 7) ?hd (cs := #[.int .i64 0, .int .i64 0, .slice none 0 0]) (t := 43) ?hr ?_; (case hd => rfl); (case hg => rfl); (case hr => first | (go_simp; done) | (go_simp; rfl)); intro gb397 hg w9 hbox hb; have n0_ := Aside0.mk (Kd.Q_below (Kd.Q_up HO391.out) hb); have n1_ := Aside0.mk (Kd.R_below (Kd.R_up HO394.out) hb); have n2_ := Aside0.mk (blk_below (g := gb382) (o := .cells #[.int .i64 0, .int .i64 0, .slice none 0 0] 43 (0, 0)) (blk_up BK382.out) hb); have n3_ := Aside0.mk (IsS93.below (by repeat (first | (with_reducible first | exact HI386.out | apply IsS93.alloc | apply IsS93.drewN | apply IsS93.drew | apply IsS93.set_1 | apply IsS93.set_2 | refine IsS93.far ?_ NB386_382.out _) | exact HI386.out)) hb); have n4_ := Aside0.mk (below_step (by repeat (first | (with_reducible first | exact HB.out | apply below_alloc | apply pw_below_drewN | apply below_drew1 | refine below_set ?_ (IsS93.ge HI386.out) | refine below_set ?_ GE382.out) | exact HB.out)) hb); have n5_ := Aside0.mk (hbox); have n6_ := Aside0.mk ((by rw [hg]; exact (below_size (by repeat (first | (with_reducible first | exact HB.out | apply below_alloc | apply pw_below_drewN | apply below_drew1 | refine below_set ?_ (IsS93.ge HI386.out) | refine below_set ?_ GE382.out) | exact HB.out))) : w.heap.size ≤ gb397)); have n7_ := Aside0.mk ((by rw [hg]; exact (below_size (by repeat (first | (with_reducible first | exact HB.out | apply below_alloc | apply pw_below_drewN | apply below_drew1 | refine below_set ?_ (IsS93.ge HI386.out) | refine below_set ?_ GE382.out) | exact HB.out))) : w.heap.size ≤ gb397)); have n8_ := Aside0.mk ((by rw [hg]; exact Nat.ne_of_lt (blk_lt (g := gb382) (o := .cells #[.int .i64 0, .int .i64 0, .slice none 0 0] 43 (0, 0)) (by (with_reducible repeat (first | refine blk_drewN ?_ _ | refine blk_drew ?_ | refine blk_alloc ?_ _)); exact BK382.out)) : gb382 ≠ gb397)); have n9_ := Aside0.mk ((by rw [hg]; exact Nat.ne_of_gt (blk_lt (g := gb382) (o := .cells #[.int .i64 0, .int .i64 0, .slice none 0 0] 43 (0, 0)) (by (with_reducible repeat (first | refine blk_drewN ?_ _ | refine blk_drew ?_ | refine blk_alloc ?_ _)); exact BK382.out)) : gb397 ≠ gb382)); have n10_ := Aside0.mk ((by rw [hg]; exact Nat.ne_of_lt (IsS93.lt (show IsS93 w _ g386 t383 t395 t396 from by repeat (first | (with_reducible first | exact HI386.out | apply IsS93.alloc | apply IsS93.drewN | apply IsS93.drew | apply IsS93.set_1 | apply IsS93.set_2 | refine IsS93.far ?_ NB386_382.out _) | exact HI386.out))) : g386 ≠ gb397)); have n11_ := Aside0.mk ((by rw [hg]; exact Nat.ne_of_gt (IsS93.lt (show IsS93 w _ g386 t383 t395 t396 from by repeat (first | (with_reducible first | exact HI386.out | apply IsS93.alloc | apply IsS93.drewN | apply IsS93.drew | apply IsS93.set_1 | apply IsS93.set_2 | refine IsS93.far ?_ NB386_382.out _) | exact HI386.out))) : gb397 ≠ g386)); clear HO391; clear HO394; clear BK382; clear HI386; clear HB; have HO391 := n0_; have HO394 := n1_; have BK382 := n2_; have HI386 := n3_; have HB := n4_; have BK397 := n5_; have GW397 := n6_; have GE397 := n7_; have NB382_397 := n8_; have NB397_382 := n9_; have NB386_397 := n10_; have NB397_386 := n11_; clear n0_ n1_ n2_ n3_ n4_ n5_ n6_ n7_ n8_ n9_ n10_ n11_; clear hb hbox hg; have hnb10 := NB397_382.out; have hnc10 := NB382_397.out; have hnb11 := NB397_386.out; have hnc11 := NB386_397.out; have hcz12_0 : w9.cell? ⟨gb397, 0, none⟩ = some (.int .i64 0) := (blk_cell BK397.out 0).trans rfl; have hcz12_1 : w9.cell? ⟨gb397, 1, none⟩ = some (.int .i64 0) := (blk_cell BK397.out 1).trans rfl; have hcz12_2 : w9.cell? ⟨gb397, 2, none⟩ = some (.slice none 0 0) := (blk_cell BK397.out 2).trans rfl; have hfz12_0 := blk_frozen BK397.out 0; have hfz12_1 := blk_frozen BK397.out 1; have hfz12_2 := blk_frozen BK397.out 2; obtain ⟨Ao13, co13, eo13, _⟩ := Kd.Q_slice HO391.out; subst eo13) | ((with_reducible refine gate_callee (f := 70) rfl ?_); refine goesL_ (some 18) rfl rfl Try.func70 (by kernel_rfl) rfl #[.pointer (some ⟨g386, 0, none⟩), .int .i64 22] rfl (by (try simp only [List.map_toArray, List.map_cons, List.map_nil]); first | done | rfl | (simp only [List.length_drop, List.length_take]; rfl)) ?_; (with_reducible refine (spec_l1Below.calls g386 t383 t395 t396 22 t398 t399 t400 w _ ?side1 ?side2 A4.out).mono ?_); (case side1 => repeat (first | (with_reducible first | exact HI386.out | apply IsS93.alloc | apply IsS93.drewN | apply IsS93.drew | apply IsS93.set_1 | apply IsS93.set_2 | refine IsS93.far ?_ NB386_382.out _ | refine IsS93.far ?_ NB386_397.out _) | exact HI386.out)); (case side2 => repeat (first | (with_reducible first | exact HB.out | apply below_alloc | apply pw_below_drewN | apply below_drew1 | refine below_set ?_ (IsS93.ge HI386.out) | refine below_set ?_ GE382.out | refine below_set ?_ GE397.out) | exact HB.out)); rintro e w14 ⟨rfl, hi, hb, hk⟩; refine ⟨_, rfl, ?_⟩; have n0_ := Aside0.mk (KeepBut.blk hk (g' := gb382) (o := .cells #[.int .i64 0, .int .i64 0, .slice none 0 0] 43 (0, 0)) (by (with_reducible repeat (first | refine blk_drewN ?_ _ | refine blk_drew ?_ | refine blk_alloc ?_ _)); refine blk_far ?_ NB382_397.out _; (with_reducible repeat (first | refine blk_drewN ?_ _ | refine blk_drew ?_ | refine blk_alloc ?_ _)); refine blk_far ?_ NB382_397.out _; (with_reducible repeat (first | refine blk_drewN ?_ _ | refine blk_drew ?_ | refine blk_alloc ?_ _)); refine blk_far ?_ NB382_397.out _; (with_reducible repeat (first | refine blk_drewN ?_ _ | refine blk_drew ?_ | refine blk_alloc ?_ _)); exact BK382.out) NB382_386.out (by simp)); have n1_ := Aside0.mk (Kd.Q_mono (Kd.Q_keep (IsS93.apartQ (show IsS93 w _ g386 t383 t395 t396 from by repeat (first | (with_reducible first | exact HI386.out | apply IsS93.alloc | apply IsS93.drewN | apply IsS93.drew | apply IsS93.set_1 | apply IsS93.set_2 | refine IsS93.far ?_ NB386_382.out _ | refine IsS93.far ?_ NB386_397.out _) | exact HI386.out)) (by (with_reducible repeat (first | apply Kd.Q_alloc | apply Kd.Q_drewN | apply Kd.Q_drew)); exact (Kd.Q_mono (Kd.Q_far (p := ⟨gb397, 2, none⟩) (Kd.Q_far (p := ⟨gb397, 1, none⟩) (Kd.Q_far (p := ⟨gb397, 0, none⟩) (Kd.Q_types HO391.out BK397.out (by decide)) (fun _ hk => hk.2) (.int .i64 t387)) (fun _ hk => hk.2) (.int .i64 t388)) (fun _ hk => hk.2) (.slice Ao13 t389.length co13)) (fun _ h_ => h_.1))) (by decide)) hk (fun _ h => h.2)) (fun _ h => h.1)); have n2_ := Aside0.mk (Kd.R_mono (Kd.R_keep (IsS93.apart (show IsS93 w _ g386 t383 t395 t396 from by repeat (first | (with_reducible first | exact HI386.out | apply IsS93.alloc | apply IsS93.drewN | apply IsS93.drew | apply IsS93.set_1 | apply IsS93.set_2 | refine IsS93.far ?_ NB386_382.out _ | refine IsS93.far ?_ NB386_397.out _) | exact HI386.out)) (by (with_reducible repeat (first | apply Kd.R_alloc | apply Kd.R_drewN | apply Kd.R_drew)); exact (Kd.R_mono (Kd.R_far (p := ⟨gb397, 2, none⟩) (Kd.R_far (p := ⟨gb397, 1, none⟩) (Kd.R_far (p := ⟨gb397, 0, none⟩) (Kd.R_types HO394.out BK397.out (by decide)) (fun _ hk => hk.2) (.int .i64 t387)) (fun _ hk => hk.2) (.int .i64 t388)) (fun _ hk => hk.2) (.slice Ao13 t389.length co13)) (fun _ h_ => h_.1))) (by decide)) hk (fun _ h => h.2)) (fun _ h => h.1)); have n3_ := Aside0.mk (KeepBut.blk hk (g' := gb397) (o := .cells #[.int .i64 t387, .int .i64 t388, .slice Ao13 t389.length co13] 43 (0, 0)) (by (with_reducible repeat (first | refine blk_drewN ?_ _ | refine blk_drew ?_ | refine blk_alloc ?_ _)); refine blk_put (cs := #[.int .i64 t387, .int .i64 t388, .slice none 0 0]) ?_ 2 _ rfl; (with_reducible repeat (first | refine blk_drewN ?_ _ | refine blk_drew ?_ | refine blk_alloc ?_ _)); refine blk_put (cs := #[.int .i64 t387, .int .i64 0, .slice none 0 0]) ?_ 1 _ rfl; (with_reducible repeat (first | refine blk_drewN ?_ _ | refine blk_drew ?_ | refine blk_alloc ?_ _)); refine blk_put (cs := #[.int .i64 0, .int .i64 0, .slice none 0 0]) ?_ 0 _ rfl; (with_reducible repeat (first | refine blk_drewN ?_ _ | refine blk_drew ?_ | refine blk_alloc ?_ _)); exact BK397.out) NB397_386.out (by simp)); have n4_ := Aside0.mk (hb); have n5_ := Aside0.mk (hi); clear BK382; clear HO391; clear HO394; clear BK397; clear HB; clear HI386; have BK382 := n0_; have HO391 := n1_; have HO394 := n2_; have BK397 := n3_; have HB := n4_; have HI386 := n5_; clear n0_ n1_ n2_ n3_ n4_ n5_; (try clear hb); (try clear hb2); (try clear hk); (try clear hi)))
 (try simp only [Act.put, List.setIfInBounds_toArray, List.set_cons_zero, List.set_cons_succ])
 go_cut [26] (fun v26 wc => ∃ (kq : Nat) (x26_4 : Bool) (x387001_4 : Int) (x387002_4 : Int), v26 = .bool x26_4 ∧ Aside0 (spec_DrawTake.j0 kq t392 t398 x26_4 t383 x387001_4 x387002_4 t387 t388 t389 = some (r1, r2, r3, r4, r5, r6)) ∧ Aside0 (kq ≤ k) ∧ Aside0 (Kd.R k66 66 wc w.heap.size (fun _ => True) v393 t392) ∧ Aside0 (Kd.Q (Kd.int .i64) 3 wc w.heap.size (fun _ => True) (.slice Ao13 t389.length co13) t389) ∧ Aside0 (wc.heap[gb382]? = some (.cells #[.int .i64 0, .int .i64 0, (.slice none 0 0)] 43 (0, 0))) ∧ Aside0 (wc.heap[gb397]? = some (.cells #[.int .i64 t387, .int .i64 t388, (.slice Ao13 t389.length co13)] 43 (0, 0))) ∧ Aside0 (IsS93 w wc g386 t383 x387001_4 x387002_4) ∧ Aside0 (Below w.heap.size w wc))
 case first =>
  have H := HC5.out
  clear HC5
  by_cases c15 : (t392.length : Int) > 0
  rotate_left
  · rw [if_neg c15] at H
    have c15b0 : decide (0 < (t392.length : Int)) = false := decide_eq_false c15
    have c15b1 : decide (0 < t392.length) = false := decide_eq_false (by omega)
    clear c15
    (first | rw [c15b0] | (simp only [i64_w, i32_w]; rw [c15b0]) | skip)
    have H' := Aside0.mk H
    clear H
    obtain ⟨Ao19, co19, eo19⟩ := Kd.R_slice HO394.out
    subst eo19
    go_wp2
    go_meet
    case rel => exact ⟨_, (false), (t399), (t400), (by first | rfl | (simp; done) | (simp [*]; done)), H', ⟨by first | omega | exact Nat.le_refl _⟩, ⟨by (with_reducible repeat (first | apply Kd.R_alloc | apply Kd.R_drewN | apply Kd.R_drew)); exact HO394.out⟩, ⟨by (with_reducible repeat (first | apply Kd.Q_alloc | apply Kd.Q_drewN | apply Kd.Q_drew)); exact HO391.out⟩, ⟨by (with_reducible repeat (first | refine blk_drewN ?_ _ | refine blk_drew ?_ | refine blk_alloc ?_ _)); exact BK382.out⟩, ⟨by (with_reducible repeat (first | refine blk_drewN ?_ _ | refine blk_drew ?_ | refine blk_alloc ?_ _)); exact BK397.out⟩, ⟨by repeat (first | (with_reducible first | exact HI386.out | apply IsS93.alloc | apply IsS93.drewN | apply IsS93.drew | apply IsS93.set_1 | apply IsS93.set_2 | refine IsS93.far ?_ NB386_382.out _ | refine IsS93.far ?_ NB386_397.out _) | exact HI386.out)⟩, ⟨by repeat (first | (with_reducible first | exact HB.out | apply below_alloc | apply pw_below_drewN | apply below_drew1 | refine below_set ?_ (IsS93.ge HI386.out) | refine below_set ?_ GE382.out | refine below_set ?_ GE397.out) | exact HB.out)⟩⟩
  rw [if_pos c15] at H
  have c15b0 : decide (0 < (t392.length : Int)) = true := decide_eq_true c15
  have c15b1 : decide (0 < t392.length) = true := decide_eq_true (by omega)
  clear c15
  (first | rw [c15b0] | (simp only [i64_w, i32_w]; rw [c15b0]) | skip)
  replace H := Option.bind_eq_some_iff.mp H
  obtain ⟨⟨t401, t402, t403⟩, A160, H⟩ := H
  dsimp only at H
  have A16 := Aside0.mk A160
  clear A160
  have H' := Aside0.mk H
  clear H
  obtain ⟨Ao17, co17, eo17⟩ := Kd.R_slice HO394.out
  subst eo17
  go_wp2_with (first | (go_at_call 52; (with_reducible refine (spec_l1Once.calls g386 t383 t399 t400 4 t401 t402 t403 w _ ?side1 ?side2 A16.out).mono ?_); (case side1 => repeat (first | (with_reducible first | exact HI386.out | apply IsS93.alloc | apply IsS93.drewN | apply IsS93.drew | apply IsS93.set_1 | apply IsS93.set_2 | refine IsS93.far ?_ NB386_382.out _ | refine IsS93.far ?_ NB386_397.out _) | exact HI386.out)); (case side2 => repeat (first | (with_reducible first | exact HB.out | apply below_alloc | apply pw_below_drewN | apply below_drew1 | refine below_set ?_ (IsS93.ge HI386.out) | refine below_set ?_ GE382.out | refine below_set ?_ GE397.out) | exact HB.out)); rintro e w18 ⟨rfl, hi, hb, hk⟩; have n0_ := Aside0.mk (KeepBut.blk hk (g' := gb382) (o := .cells #[.int .i64 0, .int .i64 0, .slice none 0 0] 43 (0, 0)) (blk_up BK382.out) NB382_386.out (by simp)); have n1_ := Aside0.mk (Kd.Q_mono (Kd.Q_keep (IsS93.apartQ (show IsS93 w _ g386 t383 t399 t400 from by repeat (first | (with_reducible first | exact HI386.out | apply IsS93.alloc | apply IsS93.drewN | apply IsS93.drew | apply IsS93.set_1 | apply IsS93.set_2 | refine IsS93.far ?_ NB386_382.out _ | refine IsS93.far ?_ NB386_397.out _) | exact HI386.out)) (Kd.Q_up HO391.out) (by decide)) hk (fun _ h => h.2)) (fun _ h => h.1)); have n2_ := Aside0.mk (Kd.R_mono (Kd.R_keep (IsS93.apart (show IsS93 w _ g386 t383 t399 t400 from by repeat (first | (with_reducible first | exact HI386.out | apply IsS93.alloc | apply IsS93.drewN | apply IsS93.drew | apply IsS93.set_1 | apply IsS93.set_2 | refine IsS93.far ?_ NB386_382.out _ | refine IsS93.far ?_ NB386_397.out _) | exact HI386.out)) (Kd.R_up HO394.out) (by decide)) hk (fun _ h => h.2)) (fun _ h => h.1)); have n3_ := Aside0.mk (KeepBut.blk hk (g' := gb397) (o := .cells #[.int .i64 t387, .int .i64 t388, .slice Ao13 t389.length co13] 43 (0, 0)) (blk_up BK397.out) NB397_386.out (by simp)); have n4_ := Aside0.mk (hb); have n5_ := Aside0.mk (hi); clear BK382; clear HO391; clear HO394; clear BK397; clear HB; clear HI386; have BK382 := n0_; have HO391 := n1_; have HO394 := n2_; have BK397 := n3_; have HB := n4_; have HI386 := n5_; clear n0_ n1_ n2_ n3_ n4_ n5_; (try clear hb); (try clear hb2); (try clear hk); (try clear hi)))
  go_meet
  case rel => exact ⟨_, (!t401), (t402), (t403), (by first | rfl | (simp; done) | (simp [*]; done)), H', ⟨by first | omega | exact Nat.le_refl _⟩, ⟨by (with_reducible repeat (first | apply Kd.R_alloc | apply Kd.R_drewN | apply Kd.R_drew)); exact HO394.out⟩, ⟨by (with_reducible repeat (first | apply Kd.Q_alloc | apply Kd.Q_drewN | apply Kd.Q_drew)); exact HO391.out⟩, ⟨by (with_reducible repeat (first | refine blk_drewN ?_ _ | refine blk_drew ?_ | refine blk_alloc ?_ _)); exact BK382.out⟩, ⟨by (with_reducible repeat (first | refine blk_drewN ?_ _ | refine blk_drew ?_ | refine blk_alloc ?_ _)); exact BK397.out⟩, ⟨by repeat (first | (with_reducible first | exact HI386.out | apply IsS93.alloc | apply IsS93.drewN | apply IsS93.drew | apply IsS93.set_1 | apply IsS93.set_2 | refine IsS93.far ?_ NB386_382.out _ | refine IsS93.far ?_ NB386_397.out _) | exact HI386.out)⟩, ⟨by repeat (first | (with_reducible first | exact HB.out | apply below_alloc | apply pw_below_drewN | apply below_drew1 | refine below_set ?_ (IsS93.ge HI386.out) | refine below_set ?_ GE382.out | refine below_set ?_ GE397.out) | exact HB.out)⟩⟩
 case rest =>
  clear HC5
  try clear c1
  try clear p2
  try clear c4
  try clear c5
  try clear c6
  try clear c7
  try clear c10
  try clear c11
  try clear c15
  try clear c15b0
  try clear c15b1
  try clear hcz12_0
  try clear hcz12_1
  try clear hcz12_2
  try clear hfz12_0
  try clear hfz12_1
  try clear hfz12_2
  obtain ⟨kq, x26_4, x387001_4, x387002_4, rfl, HA, HJ4, HO_8, HO_398002, BK382, BK397, HI386, HB⟩ := hcut
  cases kq with
  | zero => exact absurd HA.out (by simp [spec_DrawTake.j0])
  | succ kj4 =>
   have H := HA.out
   clear HA
   simp only [spec_DrawTake.j0] at H
   by_cases c20 : x26_4 = true
   rotate_left
   · replace c20 := Bool.eq_false_iff.mpr c20
     subst c20
     rw [if_neg (show ¬ (false = true) by decide)] at H
     replace H := Option.bind_eq_some_iff.mp H
     obtain ⟨t413, A340, H⟩ := H
     have A34 := Aside0.mk A340
     clear A340
     replace H := Option.bind_eq_some_iff.mp H
     obtain ⟨t414, A350, H⟩ := H
     have A35 := Aside0.mk A350
     clear A350
     obtain ⟨y415, hy415⟩ : ∃ y_ : List Int, y_ = (([1, 3, t413, wrap64 (t414 + 1), 0] : List Int)) := ⟨_, rfl⟩
     replace H : ((spec_l1Int.f t383 x387001_4 x387002_4 y415).bind fun bt418 => (some (t387, t388, t389, t392, t398, bt418.1))) = some (r1, r2, r3, r4, r5, r6) := by first | (rw [hy415]; with_reducible exact H) | (have H2_ := (Option.bind_some _ _).symm.trans H; rw [hy415]; with_reducible exact H2_) | (have H2_ := (Option.bind_some _ _).symm.trans H; with_reducible exact H2_) | with_reducible exact H | (rw [hy415]; exact H) | exact H
     have Ny415 := Aside0.mk hy415
     clear hy415
     replace H := Option.bind_eq_some_iff.mp H
     obtain ⟨⟨t418, t419, t420⟩, A360, H⟩ := H
     dsimp only at H
     have A36 := Aside0.mk A360
     clear A360
     simp only [Option.some.injEq, Prod.mk.injEq] at H
     obtain ⟨rfl, rfl, rfl, rfl, rfl, rfl⟩ := H
     try go_wp2
     have n0_ := Aside0.mk (Kd.R_drew HO_8.out)
     have n1_ := Aside0.mk (Kd.Q_drew HO_398002.out)
     have n2_ := Aside0.mk (blk_drew BK382.out)
     have n3_ := Aside0.mk (blk_drew BK397.out)
     have n4_ := Aside0.mk (IsS93.drew HI386.out)
     have n5_ := Aside0.mk (below_drew1 HB.out)
     clear HO_8
     clear HO_398002
     clear BK382
     clear BK397
     clear HI386
     clear HB
     have HO_8 := n0_
     have HO_398002 := n1_
     have BK382 := n2_
     have BK397 := n3_
     have HI386 := n4_
     have HB := n5_
     clear n0_ n1_ n2_ n3_ n4_ n5_
     obtain ⟨Ao38, co38, eo38⟩ := Kd.R_slice HO_8.out
     (first | subst eo38 | (injection eo38 with f1_ f2_ f3_; have f4_ := f1_.symm; have f5_ := f3_.symm; clear f1_ f2_ f3_; subst f4_; subst f5_))
     refine start_ (n := 17) (S := fun w' => w'.cell? ⟨gb397, 0, none⟩ = some (.int .i64 t387) ∧ w'.cell? ⟨gb397, 1, none⟩ = some (.int .i64 t388) ∧ w'.cell? ⟨gb397, 2, none⟩ = some (.slice Ao13 t389.length co13)) (ds := []) (ar 17 0 []) (by kernel_rfl) rfl rfl ⟨(blk_cell BK397.out 0).trans rfl, (blk_cell BK397.out 1).trans rfl, (blk_cell BK397.out 2).trans rfl⟩ (fun hHeld => ?_); refine with_tabW spec_DrawTake.tab6 spec_DrawTake.bits6 (fun HT_ HW_ => ?_)
     generalize wc.drew = w37 at HO_8 HO_398002 BK382 BK397 HI386 HB hHeld ⊢
     refine pure_ (i := 1) (N := some 32) (v := ?_) (a' := ?_) (ar 17 2 [0]) rfl rfl (any_of HT_.out (by kernel_rfl)) (fun _ _ _ h => h) (Or.inl ⟨by rfl, ?_⟩) ?_ ?_
     rotate_left
     · intro w'
       go_simp
       with_reducible rfl
     rotate_left
     · simp only [Act.put, List.setIfInBounds_toArray, List.set_cons_zero, List.set_cons_succ, i64_w, i32_w]
       rfl
     refine pure_ (i := 2) (N := some 33) (v := ?_) (a' := ?_) (ar 17 3 [0]) rfl rfl (any_of HT_.out (by kernel_rfl)) (fun _ _ _ h => h) (Or.inl ⟨by rfl, ?_⟩) ?_ ?_
     rotate_left
     · intro w'
       go_simp
       with_reducible rfl
     rotate_left
     · simp only [Act.put, List.setIfInBounds_toArray, List.set_cons_zero, List.set_cons_succ, i64_w, i32_w]
       rfl
     refine pure_ (i := 3) (N := some 34) (v := ?_) (a' := ?_) (ar 17 4 [0]) rfl rfl (any_of HT_.out (by kernel_rfl)) (fun _ _ _ h => h) (Or.inl ⟨by rfl, ?_⟩) ?_ ?_
     rotate_left
     · intro w'
       go_simp
       with_reducible rfl
     rotate_left
     · simp only [Act.put, List.setIfInBounds_toArray, List.set_cons_zero, List.set_cons_succ, i64_w, i32_w]
       rfl
     refine pure_ (i := 4) (N := some 35) (v := ?_) (a' := ?_) (ar 17 5 [0]) rfl rfl (any_of HT_.out (by kernel_rfl)) (fun _ _ _ h => h) (Or.inl ⟨by rfl, ?_⟩) ?_ ?_
     rotate_left
     · intro w'
       go_simp
       with_reducible rfl
     rotate_left
     · simp only [Act.put, List.setIfInBounds_toArray, List.set_cons_zero, List.set_cons_succ, i64_w, i32_w]
       rfl
     refine pure_ (i := 5) (N := some 36) (v := ?_) (a' := ?_) (ar 17 6 [0]) rfl rfl (any_of HT_.out (by kernel_rfl)) (fun _ _ _ h => h) (Or.inl ⟨by rfl, ?_⟩) ?_ ?_
     rotate_left
     · intro w'
       go_simp
       with_reducible rfl
     rotate_left
     · simp only [Act.put, List.setIfInBounds_toArray, List.set_cons_zero, List.set_cons_succ, i64_w, i32_w]
       rfl
     refine pure_ (i := 7) (N := some 38) (v := ?_) (a' := ?_) (ar 17 8 [0, 6]) rfl rfl (any_of HT_.out (by kernel_rfl)) (fun _ _ _ h => h) (Or.inl ⟨by rfl, ?_⟩) ?_ ?_
     rotate_left
     · intro w'
       go_simp
       with_reducible rfl
     rotate_left
     · simp only [Act.put, List.setIfInBounds_toArray, List.set_cons_zero, List.set_cons_succ, i64_w, i32_w]
       rfl
     refine pure_ (i := 8) (N := some 39) (v := ?_) (a' := ?_) (ar 17 9 [0, 6]) rfl rfl (any_of HT_.out (by kernel_rfl)) (fun _ _ _ h => h) (Or.inl ⟨by rfl, ?_⟩) ?_ ?_
     rotate_left
     · intro w'
       go_simp
       with_reducible rfl
     rotate_left
     · simp only [Act.put, List.setIfInBounds_toArray, List.set_cons_zero, List.set_cons_succ, i64_w, i32_w]
       rfl
     refine take_ (i := 0) (N := some 31) (v := ?_) (a' := ?_) (ar 17 9 [6]) rfl rfl (take_ofW HT_.out HW_.out (by kernel_rfl)) (fun _ _ _ h => h) (Or.inl ⟨by rfl, ?_⟩) hHeld ?_ ?_
     rotate_left
     · rintro w' ⟨s0, s1, s2⟩
       go_simp
       with_reducible rfl
     rotate_left
     · simp only [Act.put, List.setIfInBounds_toArray, List.set_cons_zero, List.set_cons_succ, i64_w, i32_w]
       rfl
     refine one_ (i := 6) (N := some 37) (ar 17 9 []) rfl rfl (one_of HT_.out (by kernel_rfl)) (by decide) (fun K hK => ?_)
     refine goes_ Try.func64 (by kernel_rfl) rfl #[.slice Ao38 t392.length co38, .int .i64 t398] (by rfl) rfl rfl (by (try simp only [List.map_toArray, List.map_cons, List.map_nil]); first | done | rfl | (simp only [List.length_drop, List.length_take]; rfl)) ?_
     with_reducible refine (spec_FoodAt.calls kj4 _ _ t392 t398 t413 _ ?side1 ?side2 A34.out).mono ?_
     (case side1 => exact Kd.C_up ((Kd.R_reads' HO_8.out).2.2))
     (case side2 => exact (Kd.R_reads' HO_8.out).2.1)
     rintro e w' ⟨rfl, ⟨nd, rfl⟩⟩
     refine ⟨_, rfl, ?_⟩
     refine hK.out _ _ ⟨(blk_cell BK397.out 0).trans rfl, (blk_cell BK397.out 1).trans rfl, (blk_cell BK397.out 2).trans rfl⟩ (fun hHeld => ?_)
     clear hK K
     refine norm_ (a' := ?_) ?_ ?_
     rotate_left
     · show Act.put _ (some 37) _ = _
       simp only [Act.put, List.setIfInBounds_toArray, List.set_cons_zero, List.set_cons_succ, i64_w, i32_w]
       rfl
     refine one_ (i := 9) (N := some 40) (ar 17 10 []) rfl rfl (one_of HT_.out (by kernel_rfl)) (by decide) (fun K hK => ?_)
     refine goes_ Try.func64 (by kernel_rfl) rfl #[.slice Ao38 t392.length co38, .int .i64 t398] (by rfl) rfl rfl (by (try simp only [List.map_toArray, List.map_cons, List.map_nil]); first | done | rfl | (simp only [List.length_drop, List.length_take]; rfl)) ?_
     with_reducible refine (spec_FoodAt.calls kj4 _ _ t392 t398 t414 _ ?side1 ?side2 A35.out).mono ?_
     (case side1 => exact Kd.C_up ((Kd.R_reads' HO_8.out).2.2))
     (case side2 => exact (Kd.R_reads' HO_8.out).2.1)
     rintro e w' ⟨rfl, ⟨nd, rfl⟩⟩
     refine ⟨_, rfl, ?_⟩
     refine hK.out _ _ ⟨(blk_cell BK397.out 0).trans rfl, (blk_cell BK397.out 1).trans rfl, (blk_cell BK397.out 2).trans rfl⟩ (fun hHeld => ?_)
     clear hK K
     refine norm_ (a' := ?_) ?_ ?_
     rotate_left
     · show Act.put _ (some 40) _ = _
       simp only [Act.put, List.setIfInBounds_toArray, List.set_cons_zero, List.set_cons_succ, i64_w, i32_w]
       rfl
     refine pure_ (i := 10) (N := some 41) (v := ?_) (a' := ?_) (ar 17 11 []) rfl rfl (any_of HT_.out (by kernel_rfl)) (fun _ _ _ h => h) (Or.inl ⟨by rfl, ?_⟩) ?_ ?_
     rotate_left
     · intro w'
       go_simp
       with_reducible rfl
     rotate_left
     · simp only [Act.put, List.setIfInBounds_toArray, List.set_cons_zero, List.set_cons_succ, i64_w, i32_w]
       rfl
     refine one_ (i := 11) (N := some 42) (ar 17 12 []) rfl rfl (one_of HT_.out (by kernel_rfl)) (by decide) (fun K hK => ?_)
     refine Kd.R_lit_step (Kd.int .i64) _ 3 ?hg (N := 42) ?hd (xs := ([1, 3, t413, wrap64 (t414 + 1), 0] : List Int)) (inner := [.int .i64 1, .int .i64 3, .int .i64 t413, .int .i64 (wrap64 (t414 + 1)), .int .i64 0]) (ok := fun _ => True) (okp := fun _ => True) ?hr ?hp (fun _ hk => hk) trivial (Below.refl _ _) (Nat.le_refl _) (by simp) ?_; (case hd => rfl); (case hg => rfl); (case hr => first | (go_simp; done) | (go_simp; rfl)); (case hp => exact (Reps.one (show Kd.M (Kd.int .i64) _ _ _ 1 [.int .i64 1] from rfl) (Reps.one (show Kd.M (Kd.int .i64) _ _ _ 3 [.int .i64 3] from rfl) (Reps.one (show Kd.M (Kd.int .i64) _ _ _ t413 [.int .i64 t413] from rfl) (Reps.one (show Kd.M (Kd.int .i64) _ _ _ (wrap64 (t414 + 1)) [.int .i64 (wrap64 (t414 + 1))] from rfl) (Reps.one (show Kd.M (Kd.int .i64) _ _ _ 0 [.int .i64 0] from rfl) (Reps.none _ _)))))))
     intro v416 w39 ho40 hb hg_ hnew_
     clear hg_ hnew_
     (first | rw [← Ny415.out] at ho40 | (simp only [Int.reduceToNat] at ho40; rw [← Ny415.out] at ho40))
     have n0_ := Aside0.mk (Kd.R_below (Kd.R_up HO_8.out) hb)
     have n1_ := Aside0.mk (Kd.Q_elder' (Kd.Q_up HO_398002.out) (Kd.R_base ho40) hb)
     have n2_ := Aside0.mk (Kd.R_lower (Kd.R_new' ho40 (Kd.Q_lt (Kd.Q_up HO_398002.out))) (below_size (by repeat (first | (with_reducible first | exact HB.out | apply below_alloc | apply pw_below_drewN | apply below_drew1 | refine below_set ?_ (IsS93.ge HI386.out) | refine below_set ?_ GE382.out | refine below_set ?_ GE397.out) | exact HB.out))))
     have n3_ := Aside0.mk (blk_below (g := gb382) (o := .cells #[.int .i64 0, .int .i64 0, .slice none 0 0] 43 (0, 0)) (blk_up BK382.out) hb)
     have n4_ := Aside0.mk (blk_below (g := gb397) (o := .cells #[.int .i64 t387, .int .i64 t388, .slice Ao13 t389.length co13] 43 (0, 0)) (blk_up BK397.out) hb)
     have n5_ := Aside0.mk (IsS93.below (by repeat (first | (with_reducible first | exact HI386.out | apply IsS93.alloc | apply IsS93.drewN | apply IsS93.drew | apply IsS93.set_1 | apply IsS93.set_2 | refine IsS93.far ?_ NB386_382.out _ | refine IsS93.far ?_ NB386_397.out _) | exact HI386.out)) hb)
     have n6_ := Aside0.mk (below_step (by repeat (first | (with_reducible first | exact HB.out | apply below_alloc | apply pw_below_drewN | apply below_drew1 | refine below_set ?_ (IsS93.ge HI386.out) | refine below_set ?_ GE382.out | refine below_set ?_ GE397.out) | exact HB.out)) hb)
     clear HO_8
     clear HO_398002
     clear BK382
     clear BK397
     clear HI386
     clear HB
     have HO_8 := n0_
     have HO_398002 := n1_
     have HO417 := n2_
     have BK382 := n3_
     have BK397 := n4_
     have HI386 := n5_
     have HB := n6_
     clear n0_ n1_ n2_ n3_ n4_ n5_ n6_
     clear hb ho40
     obtain ⟨Ao41, co41, eo41⟩ := Kd.R_slice HO417.out
     (first | subst eo41 | (injection eo41 with f1_ f2_ f3_; have f4_ := f1_.symm; have f5_ := f3_.symm; clear f1_ f2_ f3_; subst f4_; subst f5_))
     refine hK.out _ _ ⟨(blk_cell BK397.out 0).trans rfl, (blk_cell BK397.out 1).trans rfl, (blk_cell BK397.out 2).trans rfl⟩ (fun hHeld => ?_)
     clear hK K
     refine norm_ (a' := ?_) ?_ ?_
     rotate_left
     · show Act.put _ (some 42) _ = _
       simp only [Act.put, List.setIfInBounds_toArray, List.set_cons_zero, List.set_cons_succ, i64_w, i32_w]
       rfl
     refine one_ (i := 12) (N := some 43) (ar 17 13 []) rfl rfl (one_of HT_.out (by kernel_rfl)) (by decide) (fun K hK => ?_)
     refine goes_ Try.func71 (by kernel_rfl) rfl #[.pointer (some ⟨g386, 0, none⟩), .slice Ao41 y415.length co41] (by rfl) rfl rfl (by (try simp only [List.map_toArray, List.map_cons, List.map_nil]); first | done | rfl | (simp only [List.length_drop, List.length_take]; rfl)) ?_
     with_reducible refine (spec_l1Int.calls g386 t383 x387001_4 x387002_4 _ _ y415 t418 t419 t420 w _ ?side1 ?side2 ?side3 ?side4 ?side5 A36.out).mono ?_
     (case side1 => repeat (first | (with_reducible first | exact HI386.out | apply IsS93.alloc | apply IsS93.drewN | apply IsS93.drew | apply IsS93.set_1 | apply IsS93.set_2 | refine IsS93.far ?_ NB386_382.out _ | refine IsS93.far ?_ NB386_397.out _) | exact HI386.out))
     (case side2 => repeat (first | (with_reducible first | exact HB.out | apply below_alloc | apply pw_below_drewN | apply below_drew1 | refine below_set ?_ (IsS93.ge HI386.out) | refine below_set ?_ GE382.out | refine below_set ?_ GE397.out) | exact HB.out))
     (case side3 => exact Kd.C_up ((Kd.R_reads' HO417.out).2.2))
     (case side4 => exact (Kd.R_reads' HO417.out).2.1)
     (case side5 => exact far_slice (IsS93.own_ne HI386.out HO417.out (by decide)))
     rintro e w42 ⟨rfl, hi, hb, hk⟩
     refine ⟨_, rfl, ?_⟩
     have n0_ := Aside0.mk (Kd.R_mono (Kd.R_keep (IsS93.apart (show IsS93 w _ g386 t383 x387001_4 x387002_4 from by repeat (first | (with_reducible first | exact HI386.out | apply IsS93.alloc | apply IsS93.drewN | apply IsS93.drew | apply IsS93.set_1 | apply IsS93.set_2 | refine IsS93.far ?_ NB386_382.out _ | refine IsS93.far ?_ NB386_397.out _) | exact HI386.out)) (Kd.R_up HO_8.out) (by decide)) hk (fun _ h => h.2)) (fun _ h => h.1))
     have n1_ := Aside0.mk (Kd.Q_mono (Kd.Q_keep (IsS93.apartQ (show IsS93 w _ g386 t383 x387001_4 x387002_4 from by repeat (first | (with_reducible first | exact HI386.out | apply IsS93.alloc | apply IsS93.drewN | apply IsS93.drew | apply IsS93.set_1 | apply IsS93.set_2 | refine IsS93.far ?_ NB386_382.out _ | refine IsS93.far ?_ NB386_397.out _) | exact HI386.out)) (Kd.Q_up HO_398002.out) (by decide)) hk (fun _ h => h.2)) (fun _ h => h.1))
     have n2_ := Aside0.mk (KeepBut.blk hk (g' := gb382) (o := .cells #[.int .i64 0, .int .i64 0, .slice none 0 0] 43 (0, 0)) (blk_up BK382.out) NB382_386.out (by simp))
     have n3_ := Aside0.mk (KeepBut.blk hk (g' := gb397) (o := .cells #[.int .i64 t387, .int .i64 t388, .slice Ao13 t389.length co13] 43 (0, 0)) (blk_up BK397.out) NB397_386.out (by simp))
     have n4_ := Aside0.mk (Kd.R_mono (Kd.R_keep (IsS93.apart (show IsS93 w _ g386 t383 x387001_4 x387002_4 from by repeat (first | (with_reducible first | exact HI386.out | apply IsS93.alloc | apply IsS93.drewN | apply IsS93.drew | apply IsS93.set_1 | apply IsS93.set_2 | refine IsS93.far ?_ NB386_382.out _ | refine IsS93.far ?_ NB386_397.out _) | exact HI386.out)) (Kd.R_up HO417.out) (by decide)) hk (fun _ h => h.2)) (fun _ h => h.1))
     have n5_ := Aside0.mk (hb)
     have n6_ := Aside0.mk (hi)
     clear HO_8
     clear HO_398002
     clear BK382
     clear BK397
     clear HO417
     clear HB
     clear HI386
     have HO_8 := n0_
     have HO_398002 := n1_
     have BK382 := n2_
     have BK397 := n3_
     have HO417 := n4_
     have HB := n5_
     have HI386 := n6_
     clear n0_ n1_ n2_ n3_ n4_ n5_ n6_
     (try clear hb)
     (try clear hb2)
     (try clear hk)
     (try clear hi)
     refine hK.out _ _ ⟨(blk_cell BK397.out 0).trans rfl, (blk_cell BK397.out 1).trans rfl, (blk_cell BK397.out 2).trans rfl⟩ (fun hHeld => ?_)
     clear hK K
     refine norm_ (a' := ?_) ?_ ?_
     rotate_left
     · show Act.put _ (some 43) _ = _
       simp only [Act.put, List.setIfInBounds_toArray, List.set_cons_zero, List.set_cons_succ, i64_w, i32_w]
       rfl
     refine one_ (i := 13) (N := none) (ar 17 14 []) rfl rfl (one_of HT_.out (by kernel_rfl)) (by decide) (fun K hK => ?_)
     have hs43 : w42.cell? ⟨gb382, 0, none⟩ = some (.int .i64 0) := (blk_cell BK382.out 0).trans rfl
     have hfs43 := blk_frozen BK382.out 0
     have hns43_1 := NB397_382.out
     have hms43_1 := NB382_397.out
     have hs44 : w42.cell? ⟨gb382, 1, none⟩ = some (.int .i64 0) := (blk_cell BK382.out 1).trans rfl
     have hfs44 := blk_frozen BK382.out 1
     have hns44_1 := NB397_382.out
     have hms44_1 := NB382_397.out
     have hs45 : w42.cell? ⟨gb382, 2, none⟩ = some (.slice none 0 0) := (blk_cell BK382.out 2).trans rfl
     have hfs45 := blk_frozen BK382.out 2
     have hns45_1 := NB397_382.out
     have hms45_1 := NB382_397.out
     refine skip_ (w1 := ?_) (by rfl) rfl ?_ ?_
     rotate_left
     · go_simp
       rfl
     refine hK.out _ _ ⟨((cell_far (p := ⟨gb382, _, none⟩) NB397_382.out _).trans (((cell_far (p := ⟨gb382, _, none⟩) NB397_382.out _).trans (((cell_far (p := ⟨gb382, _, none⟩) NB397_382.out _).trans (hHeld.1)))))), ((cell_far (p := ⟨gb382, _, none⟩) NB397_382.out _).trans (((cell_far (p := ⟨gb382, _, none⟩) NB397_382.out _).trans (((cell_far (p := ⟨gb382, _, none⟩) NB397_382.out _).trans (hHeld.2.1)))))), ((cell_far (p := ⟨gb382, _, none⟩) NB397_382.out _).trans (((cell_far (p := ⟨gb382, _, none⟩) NB397_382.out _).trans (((cell_far (p := ⟨gb382, _, none⟩) NB397_382.out _).trans (hHeld.2.2))))))⟩ (fun hHeld => ?_)
     clear hK K
     refine pure_ (i := 14) (N := some 3) (v := ?_) (a' := ?_) (ar 17 15 []) rfl rfl (any_of HT_.out (by kernel_rfl)) (fun _ _ _ h => h) (Or.inl ⟨by rfl, ?_⟩) ?_ ?_
     rotate_left
     · intro w'
       go_simp
       with_reducible rfl
     rotate_left
     · simp only [Act.put, List.setIfInBounds_toArray, List.set_cons_zero, List.set_cons_succ, i64_w, i32_w]
       rfl
     refine pure_ (i := 15) (N := some 4) (v := ?_) (a' := ?_) (ar 17 16 []) rfl rfl (any_of HT_.out (by kernel_rfl)) (fun _ _ _ h => h) (Or.inl ⟨by rfl, ?_⟩) ?_ ?_
     rotate_left
     · intro w'
       go_simp
       with_reducible rfl
     rotate_left
     · simp only [Act.put, List.setIfInBounds_toArray, List.set_cons_zero, List.set_cons_succ, i64_w, i32_w]
       rfl
     refine pure_ (i := 16) (N := some 5) (v := ?_) (a' := ?_) (ar 17 17 []) rfl rfl (any_of HT_.out (by kernel_rfl)) (fun _ _ _ h => h) (Or.inl ⟨by rfl, ?_⟩) ?_ ?_
     rotate_left
     · intro w'
       go_simp
       with_reducible rfl
     rotate_left
     · simp only [Act.put, List.setIfInBounds_toArray, List.set_cons_zero, List.set_cons_succ, i64_w, i32_w]
       rfl
     refine done_ (done_of HT_.out (by kernel_rfl)) ?_
     try go_wp2
     refine bodyPost_ret (results_list (rs := [.cell 2 43, .tmp 3, .tmp 4, .tmp 5]) rfl (by simp) (.cell gb382 43 #[.int .i64 t387, .int .i64 t388, .slice Ao13 t389.length co13] (0, 0) _ rfl (by (with_reducible repeat (first | refine blk_drewN ?_ _ | refine blk_drew ?_ | refine blk_alloc ?_ _)); refine blk_put (cs := #[.int .i64 t387, .int .i64 t388, .slice none 0 0]) ?_ 2 _ rfl; (with_reducible repeat (first | refine blk_drewN ?_ _ | refine blk_drew ?_ | refine blk_alloc ?_ _)); refine blk_put (cs := #[.int .i64 t387, .int .i64 0, .slice none 0 0]) ?_ 1 _ rfl; (with_reducible repeat (first | refine blk_drewN ?_ _ | refine blk_drew ?_ | refine blk_alloc ?_ _)); refine blk_put (cs := #[.int .i64 0, .int .i64 0, .slice none 0 0]) ?_ 0 _ rfl; (with_reducible repeat (first | refine blk_drewN ?_ _ | refine blk_drew ?_ | refine blk_alloc ?_ _)); exact BK382.out) Try.underlying43 rfl (by kernel_rfl) (.tmp (.tmp (.tmp .nil))))) rfl ?_
     exact ⟨_, _, by first | rfl | (simp [errW_none, errW_some] <;> rfl) | (simp [*, errW_none, errW_some] <;> rfl), by (with_reducible repeat (first | apply Kd.Q_alloc | apply Kd.Q_drewN | apply Kd.Q_drew)); exact Kd.Q_mono (Kd.Q_far (p := ⟨gb382, 2, none⟩) (Kd.Q_far (p := ⟨gb382, 1, none⟩) (Kd.Q_far (p := ⟨gb382, 0, none⟩) (Kd.Q_types HO_398002.out BK382.out (by decide)) (fun _ hk => hk.2) (.int .i64 t387)) (fun _ hk => hk.2) (.int .i64 t388)) (fun _ hk => hk.2) (.slice Ao13 t389.length co13)) (fun _ hk => trivial), by (with_reducible repeat (first | apply Kd.R_alloc | apply Kd.R_drewN | apply Kd.R_drew)); exact Kd.R_mono (Kd.R_far (p := ⟨gb382, 2, none⟩) (Kd.R_far (p := ⟨gb382, 1, none⟩) (Kd.R_far (p := ⟨gb382, 0, none⟩) (Kd.R_types HO_8.out BK382.out (by decide)) (fun _ hk => hk.2) (.int .i64 t387)) (fun _ hk => hk.2) (.int .i64 t388)) (fun _ hk => hk.2) (.slice Ao13 t389.length co13)) (fun _ hk => trivial), by repeat (first | (with_reducible first | exact HB.out | apply below_alloc | apply pw_below_drewN | apply below_drew1 | refine below_set ?_ (IsS93.ge HI386.out) | refine below_set ?_ GE382.out | refine below_set ?_ GE397.out) | exact HB.out)⟩
   subst c20
   rw [if_pos rfl] at H
   by_cases c21 : 0 < (t392.length : Int)
   rotate_left
   · rw [if_neg c21] at H
     exact absurd H (by simp)
   rw [if_pos c21] at H
   have c21b0 : decide (0 < (t392.length : Int)) = true := decide_eq_true c21
   have c21b1 : decide (0 < t392.length) = true := decide_eq_true (by omega)
   clear c21
   replace H := Option.bind_eq_some_iff.mp H
   obtain ⟨t405, A220, H⟩ := H
   have A22 := Aside0.mk A220
   clear A220
   replace H := Option.bind_eq_some_iff.mp H
   obtain ⟨t406, A230, H⟩ := H
   have A23 := Aside0.mk A230
   clear A230
   obtain ⟨y407, hy407⟩ : ∃ y_ : List Int, y_ = (([1, 3, t405, wrap64 (t406 + 1), 0] : List Int)) := ⟨_, rfl⟩
   replace H : ((spec_l1Int.f t383 x387001_4 x387002_4 y407).bind fun bt410 => (some (t387, t388, t389, t392, (rd_T66 t392 0).f0, bt410.1))) = some (r1, r2, r3, r4, r5, r6) := by first | (rw [hy407]; with_reducible exact H) | (have H2_ := (Option.bind_some _ _).symm.trans H; rw [hy407]; with_reducible exact H2_) | (have H2_ := (Option.bind_some _ _).symm.trans H; with_reducible exact H2_) | with_reducible exact H | (rw [hy407]; exact H) | exact H
   have Ny407 := Aside0.mk hy407
   clear hy407
   replace H := Option.bind_eq_some_iff.mp H
   obtain ⟨⟨t410, t411, t412⟩, A240, H⟩ := H
   dsimp only at H
   have A24 := Aside0.mk A240
   clear A240
   simp only [Option.some.injEq, Prod.mk.injEq] at H
   obtain ⟨rfl, rfl, rfl, rfl, rfl, rfl⟩ := H
   obtain ⟨Ao25, co25, eo25⟩ := Kd.R_slice HO_8.out
   subst eo25
   have p404 : 0 ≤ (0 : Int) := (by omega)
   have q404 : 0 < (t392.length : Int) := of_decide_eq_true (by first | (with_reducible assumption) | assumption)
   obtain ⟨ad404, e404, hx404_0, hx404_1⟩ := at_T66 (Kd.R_reads' HO_8.out).2.2 0 p404 q404
   cases e404
   have qi404 : (0 < t392.length) = True := eq_true (by omega)
   (try rw [show ((0 : Int)).toNat = 0 from rfl] at hx404_0)
   (try rw [show 0 * 2 = 0 from rfl] at hx404_0)
   (try rw [Addr.add_zero'] at hx404_0)
   (try rw [show ((0 : Int)).toNat = 0 from rfl] at hx404_1)
   (try rw [show 0 * 2 = 0 from rfl] at hx404_1)
   (try rw [Addr.add_zero'] at hx404_1)
   replace p404 := eq_true p404
   replace q404 := eq_true q404
   try go_wp2
   have n0_ := Aside0.mk (Kd.R_drew HO_8.out)
   have n1_ := Aside0.mk (Kd.Q_drew HO_398002.out)
   have n2_ := Aside0.mk (blk_drew BK382.out)
   have n3_ := Aside0.mk (blk_drew BK397.out)
   have n4_ := Aside0.mk (IsS93.drew HI386.out)
   have n5_ := Aside0.mk (below_drew1 HB.out)
   clear HO_8
   clear HO_398002
   clear BK382
   clear BK397
   clear HI386
   clear HB
   have HO_8 := n0_
   have HO_398002 := n1_
   have BK382 := n2_
   have BK397 := n3_
   have HI386 := n4_
   have HB := n5_
   clear n0_ n1_ n2_ n3_ n4_ n5_
   refine start_ (n := 17) (S := fun w' => w'.cell? ⟨gb397, 0, none⟩ = some (.int .i64 t387) ∧ w'.cell? ⟨gb397, 1, none⟩ = some (.int .i64 t388) ∧ w'.cell? ⟨gb397, 2, none⟩ = some (.slice Ao13 t389.length co13)) (ds := []) (ar 17 0 []) (by kernel_rfl) rfl rfl ⟨(blk_cell BK397.out 0).trans rfl, (blk_cell BK397.out 1).trans rfl, (blk_cell BK397.out 2).trans rfl⟩ (fun hHeld => ?_); refine with_tabW spec_DrawTake.tab6 spec_DrawTake.bits6 (fun HT_ HW_ => ?_)
   generalize wc.drew = w26 at HO_8 HO_398002 BK382 BK397 HI386 HB hHeld ⊢
   refine pure_ (i := 1) (N := some 32) (v := ?_) (a' := ?_) (ar 17 2 [0]) rfl rfl (any_of HT_.out (by kernel_rfl)) (fun _ _ _ h => h) (Or.inl ⟨by rfl, ?_⟩) ?_ ?_
   rotate_left
   · intro w'
     go_simp
     with_reducible rfl
   rotate_left
   · simp only [Act.put, List.setIfInBounds_toArray, List.set_cons_zero, List.set_cons_succ, i64_w, i32_w]
     rfl
   refine pure_ (i := 2) (N := some 33) (v := ?_) (a' := ?_) (ar 17 3 [0]) rfl rfl (any_of HT_.out (by kernel_rfl)) (fun _ _ _ h => h) (Or.inl ⟨by rfl, ?_⟩) ?_ ?_
   rotate_left
   · intro w'
     go_simp
     with_reducible rfl
   rotate_left
   · simp only [Act.put, List.setIfInBounds_toArray, List.set_cons_zero, List.set_cons_succ, i64_w, i32_w]
     rfl
   refine pure_ (i := 3) (N := some 34) (v := ?_) (a' := ?_) (ar 17 4 [0]) rfl rfl (any_of HT_.out (by kernel_rfl)) (fun _ _ _ h => h) (Or.inl ⟨by rfl, ?_⟩) ?_ ?_
   rotate_left
   · intro w'
     go_simp
     with_reducible rfl
   rotate_left
   · simp only [Act.put, List.setIfInBounds_toArray, List.set_cons_zero, List.set_cons_succ, i64_w, i32_w]
     rfl
   refine pure_ (i := 4) (N := some 35) (v := ?_) (a' := ?_) (ar 17 5 [0]) rfl rfl (any_of HT_.out (by kernel_rfl)) (fun _ _ _ h => h) (Or.inl ⟨by rfl, ?_⟩) ?_ ?_
   rotate_left
   · intro w'
     go_simp
     with_reducible rfl
   rotate_left
   · simp only [Act.put, List.setIfInBounds_toArray, List.set_cons_zero, List.set_cons_succ, i64_w, i32_w]
     rfl
   refine pure_ (i := 5) (N := some 36) (v := ?_) (a' := ?_) (ar 17 6 [0]) rfl rfl (any_of HT_.out (by kernel_rfl)) (fun _ _ _ h => h) (Or.inl ⟨by rfl, ?_⟩) ?_ ?_
   rotate_left
   · intro w'
     go_simp
     with_reducible rfl
   rotate_left
   · simp only [Act.put, List.setIfInBounds_toArray, List.set_cons_zero, List.set_cons_succ, i64_w, i32_w]
     rfl
   refine pure_ (i := 7) (N := some 38) (v := ?_) (a' := ?_) (ar 17 8 [0, 6]) rfl rfl (any_of HT_.out (by kernel_rfl)) (fun _ _ _ h => h) (Or.inl ⟨by rfl, ?_⟩) ?_ ?_
   rotate_left
   · intro w'
     go_simp
     with_reducible rfl
   rotate_left
   · simp only [Act.put, List.setIfInBounds_toArray, List.set_cons_zero, List.set_cons_succ, i64_w, i32_w]
     rfl
   refine pure_ (i := 8) (N := some 39) (v := ?_) (a' := ?_) (ar 17 9 [0, 6]) rfl rfl (any_of HT_.out (by kernel_rfl)) (fun _ _ _ h => h) (Or.inl ⟨by rfl, ?_⟩) ?_ ?_
   rotate_left
   · intro w'
     go_simp
     with_reducible rfl
   rotate_left
   · simp only [Act.put, List.setIfInBounds_toArray, List.set_cons_zero, List.set_cons_succ, i64_w, i32_w]
     rfl
   refine take_ (i := 0) (N := some 31) (v := ?_) (a' := ?_) (ar 17 9 [6]) rfl rfl (take_ofW HT_.out HW_.out (by kernel_rfl)) (fun _ _ _ h => h) (Or.inl ⟨by rfl, ?_⟩) hHeld ?_ ?_
   rotate_left
   · rintro w' ⟨s0, s1, s2⟩
     go_simp
     with_reducible rfl
   rotate_left
   · simp only [Act.put, List.setIfInBounds_toArray, List.set_cons_zero, List.set_cons_succ, i64_w, i32_w]
     rfl
   refine one_ (i := 6) (N := some 37) (ar 17 9 []) rfl rfl (one_of HT_.out (by kernel_rfl)) (by decide) (fun K hK => ?_)
   refine goes_ Try.func64 (by kernel_rfl) rfl #[.slice (some ad404) t392.length co25, .int .i64 ((rd_T66 t392 0).f0)] (by rfl) rfl rfl (by (try simp only [List.map_toArray, List.map_cons, List.map_nil]); first | done | rfl | (simp only [List.length_drop, List.length_take]; rfl)) ?_
   with_reducible refine (spec_FoodAt.calls kj4 _ _ t392 ((rd_T66 t392 0).f0) t405 _ ?side1 ?side2 A22.out).mono ?_
   (case side1 => exact Kd.C_up ((Kd.R_reads' HO_8.out).2.2))
   (case side2 => exact (Kd.R_reads' HO_8.out).2.1)
   rintro e w' ⟨rfl, ⟨nd, rfl⟩⟩
   refine ⟨_, rfl, ?_⟩
   refine hK.out _ _ ⟨(blk_cell BK397.out 0).trans rfl, (blk_cell BK397.out 1).trans rfl, (blk_cell BK397.out 2).trans rfl⟩ (fun hHeld => ?_)
   clear hK K
   refine norm_ (a' := ?_) ?_ ?_
   rotate_left
   · show Act.put _ (some 37) _ = _
     simp only [Act.put, List.setIfInBounds_toArray, List.set_cons_zero, List.set_cons_succ, i64_w, i32_w]
     rfl
   refine one_ (i := 9) (N := some 40) (ar 17 10 []) rfl rfl (one_of HT_.out (by kernel_rfl)) (by decide) (fun K hK => ?_)
   refine goes_ Try.func64 (by kernel_rfl) rfl #[.slice (some ad404) t392.length co25, .int .i64 ((rd_T66 t392 0).f0)] (by rfl) rfl rfl (by (try simp only [List.map_toArray, List.map_cons, List.map_nil]); first | done | rfl | (simp only [List.length_drop, List.length_take]; rfl)) ?_
   with_reducible refine (spec_FoodAt.calls kj4 _ _ t392 ((rd_T66 t392 0).f0) t406 _ ?side1 ?side2 A23.out).mono ?_
   (case side1 => exact Kd.C_up ((Kd.R_reads' HO_8.out).2.2))
   (case side2 => exact (Kd.R_reads' HO_8.out).2.1)
   rintro e w' ⟨rfl, ⟨nd, rfl⟩⟩
   refine ⟨_, rfl, ?_⟩
   refine hK.out _ _ ⟨(blk_cell BK397.out 0).trans rfl, (blk_cell BK397.out 1).trans rfl, (blk_cell BK397.out 2).trans rfl⟩ (fun hHeld => ?_)
   clear hK K
   refine norm_ (a' := ?_) ?_ ?_
   rotate_left
   · show Act.put _ (some 40) _ = _
     simp only [Act.put, List.setIfInBounds_toArray, List.set_cons_zero, List.set_cons_succ, i64_w, i32_w]
     rfl
   refine pure_ (i := 10) (N := some 41) (v := ?_) (a' := ?_) (ar 17 11 []) rfl rfl (any_of HT_.out (by kernel_rfl)) (fun _ _ _ h => h) (Or.inl ⟨by rfl, ?_⟩) ?_ ?_
   rotate_left
   · intro w'
     go_simp
     with_reducible rfl
   rotate_left
   · simp only [Act.put, List.setIfInBounds_toArray, List.set_cons_zero, List.set_cons_succ, i64_w, i32_w]
     rfl
   refine one_ (i := 11) (N := some 42) (ar 17 12 []) rfl rfl (one_of HT_.out (by kernel_rfl)) (by decide) (fun K hK => ?_)
   refine Kd.R_lit_step (Kd.int .i64) _ 3 ?hg (N := 42) ?hd (xs := ([1, 3, t405, wrap64 (t406 + 1), 0] : List Int)) (inner := [.int .i64 1, .int .i64 3, .int .i64 t405, .int .i64 (wrap64 (t406 + 1)), .int .i64 0]) (ok := fun _ => True) (okp := fun _ => True) ?hr ?hp (fun _ hk => hk) trivial (Below.refl _ _) (Nat.le_refl _) (by simp) ?_; (case hd => rfl); (case hg => rfl); (case hr => first | (go_simp; done) | (go_simp; rfl)); (case hp => exact (Reps.one (show Kd.M (Kd.int .i64) _ _ _ 1 [.int .i64 1] from rfl) (Reps.one (show Kd.M (Kd.int .i64) _ _ _ 3 [.int .i64 3] from rfl) (Reps.one (show Kd.M (Kd.int .i64) _ _ _ t405 [.int .i64 t405] from rfl) (Reps.one (show Kd.M (Kd.int .i64) _ _ _ (wrap64 (t406 + 1)) [.int .i64 (wrap64 (t406 + 1))] from rfl) (Reps.one (show Kd.M (Kd.int .i64) _ _ _ 0 [.int .i64 0] from rfl) (Reps.none _ _)))))))
   intro v408 w27 ho28 hb hg_ hnew_
   clear hg_ hnew_
   (first | rw [← Ny407.out] at ho28 | (simp only [Int.reduceToNat] at ho28; rw [← Ny407.out] at ho28))
   have n0_ := Aside0.mk (Kd.R_below (Kd.R_up HO_8.out) hb)
   have n1_ := Aside0.mk (Kd.Q_elder' (Kd.Q_up HO_398002.out) (Kd.R_base ho28) hb)
   have n2_ := Aside0.mk (Kd.R_lower (Kd.R_new' ho28 (Kd.Q_lt (Kd.Q_up HO_398002.out))) (below_size (by repeat (first | (with_reducible first | exact HB.out | apply below_alloc | apply pw_below_drewN | apply below_drew1 | refine below_set ?_ (IsS93.ge HI386.out) | refine below_set ?_ GE382.out | refine below_set ?_ GE397.out) | exact HB.out))))
   have n3_ := Aside0.mk (blk_below (g := gb382) (o := .cells #[.int .i64 0, .int .i64 0, .slice none 0 0] 43 (0, 0)) (blk_up BK382.out) hb)
   have n4_ := Aside0.mk (blk_below (g := gb397) (o := .cells #[.int .i64 t387, .int .i64 t388, .slice Ao13 t389.length co13] 43 (0, 0)) (blk_up BK397.out) hb)
   have n5_ := Aside0.mk (IsS93.below (by repeat (first | (with_reducible first | exact HI386.out | apply IsS93.alloc | apply IsS93.drewN | apply IsS93.drew | apply IsS93.set_1 | apply IsS93.set_2 | refine IsS93.far ?_ NB386_382.out _ | refine IsS93.far ?_ NB386_397.out _) | exact HI386.out)) hb)
   have n6_ := Aside0.mk (below_step (by repeat (first | (with_reducible first | exact HB.out | apply below_alloc | apply pw_below_drewN | apply below_drew1 | refine below_set ?_ (IsS93.ge HI386.out) | refine below_set ?_ GE382.out | refine below_set ?_ GE397.out) | exact HB.out)) hb)
   clear HO_8
   clear HO_398002
   clear BK382
   clear BK397
   clear HI386
   clear HB
   have HO_8 := n0_
   have HO_398002 := n1_
   have HO409 := n2_
   have BK382 := n3_
   have BK397 := n4_
   have HI386 := n5_
   have HB := n6_
   clear n0_ n1_ n2_ n3_ n4_ n5_ n6_
   clear hb ho28
   obtain ⟨Ao29, co29, eo29⟩ := Kd.R_slice HO409.out
   (first | subst eo29 | (injection eo29 with f1_ f2_ f3_; have f4_ := f1_.symm; have f5_ := f3_.symm; clear f1_ f2_ f3_; subst f4_; subst f5_))
   refine hK.out _ _ ⟨(blk_cell BK397.out 0).trans rfl, (blk_cell BK397.out 1).trans rfl, (blk_cell BK397.out 2).trans rfl⟩ (fun hHeld => ?_)
   clear hK K
   refine norm_ (a' := ?_) ?_ ?_
   rotate_left
   · show Act.put _ (some 42) _ = _
     simp only [Act.put, List.setIfInBounds_toArray, List.set_cons_zero, List.set_cons_succ, i64_w, i32_w]
     rfl
   refine one_ (i := 12) (N := some 43) (ar 17 13 []) rfl rfl (one_of HT_.out (by kernel_rfl)) (by decide) (fun K hK => ?_)
   refine goes_ Try.func71 (by kernel_rfl) rfl #[.pointer (some ⟨g386, 0, none⟩), .slice Ao29 y407.length co29] (by rfl) rfl rfl (by (try simp only [List.map_toArray, List.map_cons, List.map_nil]); first | done | rfl | (simp only [List.length_drop, List.length_take]; rfl)) ?_
   with_reducible refine (spec_l1Int.calls g386 t383 x387001_4 x387002_4 _ _ y407 t410 t411 t412 w _ ?side1 ?side2 ?side3 ?side4 ?side5 A24.out).mono ?_
   (case side1 => repeat (first | (with_reducible first | exact HI386.out | apply IsS93.alloc | apply IsS93.drewN | apply IsS93.drew | apply IsS93.set_1 | apply IsS93.set_2 | refine IsS93.far ?_ NB386_382.out _ | refine IsS93.far ?_ NB386_397.out _) | exact HI386.out))
   (case side2 => repeat (first | (with_reducible first | exact HB.out | apply below_alloc | apply pw_below_drewN | apply below_drew1 | refine below_set ?_ (IsS93.ge HI386.out) | refine below_set ?_ GE382.out | refine below_set ?_ GE397.out) | exact HB.out))
   (case side3 => exact Kd.C_up ((Kd.R_reads' HO409.out).2.2))
   (case side4 => exact (Kd.R_reads' HO409.out).2.1)
   (case side5 => exact far_slice (IsS93.own_ne HI386.out HO409.out (by decide)))
   rintro e w30 ⟨rfl, hi, hb, hk⟩
   refine ⟨_, rfl, ?_⟩
   have n0_ := Aside0.mk (Kd.R_mono (Kd.R_keep (IsS93.apart (show IsS93 w _ g386 t383 x387001_4 x387002_4 from by repeat (first | (with_reducible first | exact HI386.out | apply IsS93.alloc | apply IsS93.drewN | apply IsS93.drew | apply IsS93.set_1 | apply IsS93.set_2 | refine IsS93.far ?_ NB386_382.out _ | refine IsS93.far ?_ NB386_397.out _) | exact HI386.out)) (Kd.R_up HO_8.out) (by decide)) hk (fun _ h => h.2)) (fun _ h => h.1))
   have n1_ := Aside0.mk (Kd.Q_mono (Kd.Q_keep (IsS93.apartQ (show IsS93 w _ g386 t383 x387001_4 x387002_4 from by repeat (first | (with_reducible first | exact HI386.out | apply IsS93.alloc | apply IsS93.drewN | apply IsS93.drew | apply IsS93.set_1 | apply IsS93.set_2 | refine IsS93.far ?_ NB386_382.out _ | refine IsS93.far ?_ NB386_397.out _) | exact HI386.out)) (Kd.Q_up HO_398002.out) (by decide)) hk (fun _ h => h.2)) (fun _ h => h.1))
   have n2_ := Aside0.mk (KeepBut.blk hk (g' := gb382) (o := .cells #[.int .i64 0, .int .i64 0, .slice none 0 0] 43 (0, 0)) (blk_up BK382.out) NB382_386.out (by simp))
   have n3_ := Aside0.mk (KeepBut.blk hk (g' := gb397) (o := .cells #[.int .i64 t387, .int .i64 t388, .slice Ao13 t389.length co13] 43 (0, 0)) (blk_up BK397.out) NB397_386.out (by simp))
   have n4_ := Aside0.mk (Kd.R_mono (Kd.R_keep (IsS93.apart (show IsS93 w _ g386 t383 x387001_4 x387002_4 from by repeat (first | (with_reducible first | exact HI386.out | apply IsS93.alloc | apply IsS93.drewN | apply IsS93.drew | apply IsS93.set_1 | apply IsS93.set_2 | refine IsS93.far ?_ NB386_382.out _ | refine IsS93.far ?_ NB386_397.out _) | exact HI386.out)) (Kd.R_up HO409.out) (by decide)) hk (fun _ h => h.2)) (fun _ h => h.1))
   have n5_ := Aside0.mk (hb)
   have n6_ := Aside0.mk (hi)
   clear HO_8
   clear HO_398002
   clear BK382
   clear BK397
   clear HO409
   clear HB
   clear HI386
   have HO_8 := n0_
   have HO_398002 := n1_
   have BK382 := n2_
   have BK397 := n3_
   have HO409 := n4_
   have HB := n5_
   have HI386 := n6_
   clear n0_ n1_ n2_ n3_ n4_ n5_ n6_
   (try clear hb)
   (try clear hb2)
   (try clear hk)
   (try clear hi)
   refine hK.out _ _ ⟨(blk_cell BK397.out 0).trans rfl, (blk_cell BK397.out 1).trans rfl, (blk_cell BK397.out 2).trans rfl⟩ (fun hHeld => ?_)
   clear hK K
   refine norm_ (a' := ?_) ?_ ?_
   rotate_left
   · show Act.put _ (some 43) _ = _
     simp only [Act.put, List.setIfInBounds_toArray, List.set_cons_zero, List.set_cons_succ, i64_w, i32_w]
     rfl
   refine one_ (i := 13) (N := none) (ar 17 14 []) rfl rfl (one_of HT_.out (by kernel_rfl)) (by decide) (fun K hK => ?_)
   have hs31 : w30.cell? ⟨gb382, 0, none⟩ = some (.int .i64 0) := (blk_cell BK382.out 0).trans rfl
   have hfs31 := blk_frozen BK382.out 0
   have hns31_1 := NB397_382.out
   have hms31_1 := NB382_397.out
   have hs32 : w30.cell? ⟨gb382, 1, none⟩ = some (.int .i64 0) := (blk_cell BK382.out 1).trans rfl
   have hfs32 := blk_frozen BK382.out 1
   have hns32_1 := NB397_382.out
   have hms32_1 := NB382_397.out
   have hs33 : w30.cell? ⟨gb382, 2, none⟩ = some (.slice none 0 0) := (blk_cell BK382.out 2).trans rfl
   have hfs33 := blk_frozen BK382.out 2
   have hns33_1 := NB397_382.out
   have hms33_1 := NB382_397.out
   refine skip_ (w1 := ?_) (by rfl) rfl ?_ ?_
   rotate_left
   · go_simp
     rfl
   refine hK.out _ _ ⟨((cell_far (p := ⟨gb382, _, none⟩) NB397_382.out _).trans (((cell_far (p := ⟨gb382, _, none⟩) NB397_382.out _).trans (((cell_far (p := ⟨gb382, _, none⟩) NB397_382.out _).trans (hHeld.1)))))), ((cell_far (p := ⟨gb382, _, none⟩) NB397_382.out _).trans (((cell_far (p := ⟨gb382, _, none⟩) NB397_382.out _).trans (((cell_far (p := ⟨gb382, _, none⟩) NB397_382.out _).trans (hHeld.2.1)))))), ((cell_far (p := ⟨gb382, _, none⟩) NB397_382.out _).trans (((cell_far (p := ⟨gb382, _, none⟩) NB397_382.out _).trans (((cell_far (p := ⟨gb382, _, none⟩) NB397_382.out _).trans (hHeld.2.2))))))⟩ (fun hHeld => ?_)
   clear hK K
   refine pure_ (i := 14) (N := some 3) (v := ?_) (a' := ?_) (ar 17 15 []) rfl rfl (any_of HT_.out (by kernel_rfl)) (fun _ _ _ h => h) (Or.inl ⟨by rfl, ?_⟩) ?_ ?_
   rotate_left
   · intro w'
     go_simp
     with_reducible rfl
   rotate_left
   · simp only [Act.put, List.setIfInBounds_toArray, List.set_cons_zero, List.set_cons_succ, i64_w, i32_w]
     rfl
   refine pure_ (i := 15) (N := some 4) (v := ?_) (a' := ?_) (ar 17 16 []) rfl rfl (any_of HT_.out (by kernel_rfl)) (fun _ _ _ h => h) (Or.inl ⟨by rfl, ?_⟩) ?_ ?_
   rotate_left
   · intro w'
     go_simp
     with_reducible rfl
   rotate_left
   · simp only [Act.put, List.setIfInBounds_toArray, List.set_cons_zero, List.set_cons_succ, i64_w, i32_w]
     rfl
   refine pure_ (i := 16) (N := some 5) (v := ?_) (a' := ?_) (ar 17 17 []) rfl rfl (any_of HT_.out (by kernel_rfl)) (fun _ _ _ h => h) (Or.inl ⟨by rfl, ?_⟩) ?_ ?_
   rotate_left
   · intro w'
     go_simp
     with_reducible rfl
   rotate_left
   · simp only [Act.put, List.setIfInBounds_toArray, List.set_cons_zero, List.set_cons_succ, i64_w, i32_w]
     rfl
   refine done_ (done_of HT_.out (by kernel_rfl)) ?_
   try go_wp2
   refine bodyPost_ret (results_list (rs := [.cell 2 43, .tmp 3, .tmp 4, .tmp 5]) rfl (by simp) (.cell gb382 43 #[.int .i64 t387, .int .i64 t388, .slice Ao13 t389.length co13] (0, 0) _ rfl (by (with_reducible repeat (first | refine blk_drewN ?_ _ | refine blk_drew ?_ | refine blk_alloc ?_ _)); refine blk_put (cs := #[.int .i64 t387, .int .i64 t388, .slice none 0 0]) ?_ 2 _ rfl; (with_reducible repeat (first | refine blk_drewN ?_ _ | refine blk_drew ?_ | refine blk_alloc ?_ _)); refine blk_put (cs := #[.int .i64 t387, .int .i64 0, .slice none 0 0]) ?_ 1 _ rfl; (with_reducible repeat (first | refine blk_drewN ?_ _ | refine blk_drew ?_ | refine blk_alloc ?_ _)); refine blk_put (cs := #[.int .i64 0, .int .i64 0, .slice none 0 0]) ?_ 0 _ rfl; (with_reducible repeat (first | refine blk_drewN ?_ _ | refine blk_drew ?_ | refine blk_alloc ?_ _)); exact BK382.out) Try.underlying43 rfl (by kernel_rfl) (.tmp (.tmp (.tmp .nil))))) rfl ?_
   exact ⟨_, _, by first | rfl | (simp [errW_none, errW_some] <;> rfl) | (simp [*, errW_none, errW_some] <;> rfl), by (with_reducible repeat (first | apply Kd.Q_alloc | apply Kd.Q_drewN | apply Kd.Q_drew)); exact Kd.Q_mono (Kd.Q_far (p := ⟨gb382, 2, none⟩) (Kd.Q_far (p := ⟨gb382, 1, none⟩) (Kd.Q_far (p := ⟨gb382, 0, none⟩) (Kd.Q_types HO_398002.out BK382.out (by decide)) (fun _ hk => hk.2) (.int .i64 t387)) (fun _ hk => hk.2) (.int .i64 t388)) (fun _ hk => hk.2) (.slice Ao13 t389.length co13)) (fun _ hk => trivial), by (with_reducible repeat (first | apply Kd.R_alloc | apply Kd.R_drewN | apply Kd.R_drew)); exact Kd.R_mono (Kd.R_far (p := ⟨gb382, 2, none⟩) (Kd.R_far (p := ⟨gb382, 1, none⟩) (Kd.R_far (p := ⟨gb382, 0, none⟩) (Kd.R_types HO_8.out BK382.out (by decide)) (fun _ hk => hk.2) (.int .i64 t387)) (fun _ hk => hk.2) (.int .i64 t388)) (fun _ hk => hk.2) (.slice Ao13 t389.length co13)) (fun _ hk => trivial), by repeat (first | (with_reducible first | exact HB.out | apply below_alloc | apply pw_below_drewN | apply below_drew1 | refine below_set ?_ (IsS93.ge HI386.out) | refine below_set ?_ GE382.out | refine below_set ?_ GE397.out) | exact HB.out)⟩

end Go.Proofs.Ytdgpnmbmnnmdcaa.PFnDepots
