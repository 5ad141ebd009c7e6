/- Contracts of Go functions: what print.sh prints, written shorter by low.py. -/
import Derived.Test.YtdgpnmbmnnmdcaaLow
import Derived.Test.YtdgpnmbmnnmdcaaUp
import Derived.Test.YtdgpnmbmnnmdcaaPFnRopesx0
import Derived.Test.YtdgpnmbmnnmdcaaPFnRopesx1
import Derived.Test.YtdgpnmbmnnmdcaaPFnRopesx5
import Derived.Test.YtdgpnmbmnnmdcaaPFnRopesx8
import Derived.Test.YtdgpnmbmnnmdcaaPFnRopesx10
import Derived.Test.YtdgpnmbmnnmdcaaPFnRopesx11
namespace Go.Proofs.Ytdgpnmbmnnmdcaa.PFnRopes
open Go.RowKit Go.Proofs.YtdgpnmbmnnmdcaaW.PrintWords Go.Proofs.YtdgpnmbmnnmdcaaW.PrintLast Go.Proofs.YtdgpnmbmnnmdcaaW.PrintMore
attribute [local go_sem] max2_int min2_int max_two min_two max_three min_three max_four min_four   -- for this text's walks alone
set_option linter.unusedVariables false
set_option linter.unusedSimpArgs false

/-! ### spec_WayTo: function 77 -/
mutual
def spec_WayTo.l0 : Nat → Int → Int → List Int → List Int → Int → Int → List Int → Option (List Int)
 | 0, _, _, _, _, _, _, _ => none
 | k + 1, x1, x2, x7, x8, x474000, x474001, x474002 => if x1 = x2 then (some x7) else ((spec_l4Near.f k x474000 x474001 x474002 x1).bind fun t484 => (spec_WayTo.l1 k x1 x2 x7 x8 t484 (wrap64 ((t484.length : Int) - 1)) x474000 x474001 x474002))
def spec_WayTo.l1 : Nat → Int → Int → List Int → List Int → List Int → Int → Int → Int → List Int → Option (List Int)
 | 0, _, _, _, _, _, _, _, _, _ => none
 | k + 1, x1, x2, x7, x8, x9, x10, x474000, x474001, x474002 => if x10 ≥ 0 then (if 0 ≤ x10 then (if x10 < (x9.length : Int) then (if 0 ≤ (rd x9 x10) then (if (rd x9 x10) < (x8.length : Int) then (if 0 ≤ (wrap64 ((x7.length : Int) - 1)) then (if (wrap64 ((x7.length : Int) - 1)) < (x7.length : Int) then (if 0 ≤ (rd x7 (wrap64 ((x7.length : Int) - 1))) then (if (rd x7 (wrap64 ((x7.length : Int) - 1))) < (x8.length : Int) then (if (rd x8 (rd x9 x10)) = (wrap64 ((rd x8 (rd x7 (wrap64 ((x7.length : Int) - 1)))) - 1)) then (spec_WayTo.l1 k (rd x9 x10) x2 x7 x8 x9 (wrap64 (x10 - 1)) x474000 x474001 x474002) else (spec_WayTo.l1 k x1 x2 x7 x8 x9 (wrap64 (x10 - 1)) x474000 x474001 x474002)) else (none)) else (none)) else (none)) else (none)) else (none)) else (none)) else (none)) else (none)) else (if x7.length < 17592186044416 then (spec_WayTo.l0 k x1 x2 (x7 ++ [x1]) x8 x474000 x474001 x474002) else (none))
end
def spec_WayTo.f (k : Nat) (a0_0 : Int) (a0_1 : Int) (l0_2 : List Int) (a1 : Int) (a2 : Int) : Option (List Int) := (some (([] : List Int) : List Int)).bind fun y474 => ((spec_Days.f k a0_0 a0_1 l0_2 a1 a2).bind fun t477 => (if t477 < 0 then (some y474) else ((spec_l5From.f k a0_0 a0_1 l0_2 a2).bind fun t478 => (if y474.length < 17592186044416 then (spec_WayTo.l0 k a1 a2 (y474 ++ [a1]) t478 a0_0 a0_1 l0_2) else (none)))))
theorem spec_WayTo.mono_l : ∀ k, (∀ y0 y1 y2 y3 y4 y5 y6, LeO (spec_WayTo.l0 k y0 y1 y2 y3 y4 y5 y6) (spec_WayTo.l0 (k + 1) y0 y1 y2 y3 y4 y5 y6)) ∧ (∀ y0 y1 y2 y3 y4 y5 y6 y7 y8, LeO (spec_WayTo.l1 k y0 y1 y2 y3 y4 y5 y6 y7 y8) (spec_WayTo.l1 (k + 1) y0 y1 y2 y3 y4 y5 y6 y7 y8))
 | 0 => ⟨fun _ _ _ _ _ _ _ r h => by simp [spec_WayTo.l0] at h, fun _ _ _ _ _ _ _ _ _ r h => by simp [spec_WayTo.l1] at h⟩
 | k + 1 => by
  obtain ⟨ih0, ih1⟩ := spec_WayTo.mono_l k
  refine ⟨?_, ?_⟩
  · intro y0 y1 y2 y3 y4 y5 y6
    unfold spec_WayTo.l0
    repeat' first
    | (with_reducible exact ih0 _ _ _ _ _ _ _)
    | (with_reducible exact ih1 _ _ _ _ _ _ _ _ _)
    | (with_reducible exact spec_Days.mono _ _ _ _ _ _)
    | (with_reducible exact spec_l4Near.mono _ _ _ _ _)
    | (with_reducible exact spec_l5From.mono _ _ _ _ _)
    | (with_reducible exact LeO.refl _)
    | (with_reducible exact LeO.none _)
    | (with_reducible refine LeO.ite ?_ ?_)
    | (with_reducible refine LeO.bind ?_ (fun _ => ?_))
    | exact ih0 _ _ _ _ _ _ _
    | exact ih1 _ _ _ _ _ _ _ _ _
    | exact spec_Days.mono _ _ _ _ _ _
    | exact spec_l4Near.mono _ _ _ _ _
    | exact spec_l5From.mono _ _ _ _ _
    | exact LeO.none _
    | refine LeO.ite ?_ ?_
    | refine LeO.bind ?_ (fun _ => ?_)
  · intro y0 y1 y2 y3 y4 y5 y6 y7 y8
    unfold spec_WayTo.l1
    repeat' first
    | (with_reducible exact ih0 _ _ _ _ _ _ _)
    | (with_reducible exact ih1 _ _ _ _ _ _ _ _ _)
    | (with_reducible exact spec_Days.mono _ _ _ _ _ _)
    | (with_reducible exact spec_l4Near.mono _ _ _ _ _)
    | (with_reducible exact spec_l5From.mono _ _ _ _ _)
    | (with_reducible exact LeO.refl _)
    | (with_reducible exact LeO.none _)
    | (with_reducible refine LeO.ite ?_ ?_)
    | (with_reducible refine LeO.bind ?_ (fun _ => ?_))
    | exact ih0 _ _ _ _ _ _ _
    | exact ih1 _ _ _ _ _ _ _ _ _
    | exact spec_Days.mono _ _ _ _ _ _
    | exact spec_l4Near.mono _ _ _ _ _
    | exact spec_l5From.mono _ _ _ _ _
    | exact LeO.none _
    | refine LeO.ite ?_ ?_
    | refine LeO.bind ?_ (fun _ => ?_)
theorem spec_WayTo.mono : ∀ a0 a1 a2 a3 a4 k, LeO (spec_WayTo.f k a0 a1 a2 a3 a4) (spec_WayTo.f (k + 1) a0 a1 a2 a3 a4) := by
 intro a0 a1 a2 a3 a4 k
 obtain ⟨ih0, ih1⟩ := spec_WayTo.mono_l k
 unfold spec_WayTo.f
 repeat' first
  | (with_reducible exact ih0 _ _ _ _ _ _ _)
  | (with_reducible exact ih1 _ _ _ _ _ _ _ _ _)
  | (with_reducible exact spec_Days.mono _ _ _ _ _ _)
  | (with_reducible exact spec_l4Near.mono _ _ _ _ _)
  | (with_reducible exact spec_l5From.mono _ _ _ _ _)
  | (with_reducible exact LeO.refl _)
  | (with_reducible exact LeO.none _)
  | (with_reducible refine LeO.ite ?_ ?_)
  | (with_reducible refine LeO.bind ?_ (fun _ => ?_))
  | exact ih0 _ _ _ _ _ _ _
  | exact ih1 _ _ _ _ _ _ _ _ _
  | exact spec_Days.mono _ _ _ _ _ _
  | exact spec_l4Near.mono _ _ _ _ _
  | exact spec_l5From.mono _ _ _ _ _
  | exact LeO.none _
  | refine LeO.ite ?_ ?_
  | refine LeO.bind ?_ (fun _ => ?_)
set_option maxHeartbeats 8000000 in
set_option maxRecDepth 100000 in
theorem spec_WayTo.calls (k : Nat) (a0_0 : Int) (a0_1 : Int) (A0_2 : Option Addr) (c0_2 : Nat) (l0_2 : List Int) (a1 : Int) (a2 : Int) (r : List Int) (w : World) (hr0_2 : Kd.C (Kd.int .i64) w A0_2 l0_2.length l0_2) (hc0_2 : l0_2.length ≤ c0_2) (h : spec_WayTo.f k a0_0 a0_1 l0_2 a1 a2 = some r) :
 Calls Try.prog 77 #[.agg #[.int .i64 a0_0, .int .i64 a0_1, .slice A0_2 l0_2.length c0_2], .int .i64 a1, .int .i64 a2] w fun e w' => ∃ v0_ : Value, e = .returned (v0_) ∧ Kd.R (Kd.int .i64) 3 w' w.heap.size (fun _ => True) v0_ r ∧ Below w.heap.size w w' := by
 have hu43 := Try.underlying43
 have HR0_2 := Aside0.mk hr0_2
 have HC0_2 := Aside0.mk hc0_2
 clear hr0_2 hc0_2
 have HB := Aside0.mk (Below.refl w.heap.size w)
 have H : ((some (([] : List Int) : List Int)).bind fun y474 => ((spec_Days.f k a0_0 a0_1 l0_2 a1 a2).bind fun t477 => (if t477 < 0 then (some y474) else ((spec_l5From.f k a0_0 a0_1 l0_2 a2).bind fun t478 => (if y474.length < 17592186044416 then (spec_WayTo.l0 k a1 a2 (y474 ++ [a1]) t478 a0_0 a0_1 l0_2) else (none)))))) = some r := h
 clear h
 obtain ⟨y474, hy474⟩ : ∃ y_ : List Int, y_ = (([] : List Int)) := ⟨_, rfl⟩
 replace H : ((spec_Days.f k a0_0 a0_1 l0_2 a1 a2).bind fun t477 => (if t477 < 0 then (some y474) else ((spec_l5From.f k a0_0 a0_1 l0_2 a2).bind fun t478 => (if y474.length < 17592186044416 then (spec_WayTo.l0 k a1 a2 (y474 ++ [a1]) t478 a0_0 a0_1 l0_2) else (none))))) = some r := by first | (rw [hy474]; with_reducible exact H) | (have H2_ := (Option.bind_some _ _).symm.trans H; rw [hy474]; with_reducible exact H2_) | (have H2_ := (Option.bind_some _ _).symm.trans H; with_reducible exact H2_) | with_reducible exact H | (rw [hy474]; exact H) | exact H
 have Ny474 := Aside0.mk hy474
 clear hy474
 replace H := Option.bind_eq_some_iff.mp H
 obtain ⟨t477, A40, H⟩ := H
 have A4 := Aside0.mk A40
 clear A40
 by_cases c5 : t477 < 0
 · rw [if_pos c5] at H
   have c5b0 : decide (t477 < 0) = true := decide_eq_true c5
   clear c5
   obtain rfl := Option.some.inj H
   go_enter Try.func77, Try.ntmps77
   go_wp2_with (first | ((with_reducible refine gate_dst (N := 3) rfl ?_); refine box_event ?hg (N := 3) ?hd (cs := #[.int .i64 a0_0, .int .i64 a0_1, .slice A0_2 l0_2.length c0_2]) (t := 43) ?hr ?_; (case hd => rfl); (case hg => rfl); (case hr => first | (go_simp; done) | (go_simp; rfl)); intro gb473 hg w6 hbox hb; have n0_ := Aside0.mk (below_step (below_up HB.out) hb); have n1_ := Aside0.mk (hbox); have n2_ := Aside0.mk (szle hg HB.out); have n3_ := Aside0.mk (szle hg HB.out); replace HB := n0_; have BK473 := n1_; have GW473 := n2_; have GE473 := n3_; clear n0_ n1_ n2_ n3_; clear hb hbox hg) | ((with_reducible refine gate_dst (N := 11) rfl ?_); refine Kd.R_lit (Kd.int .i64) _ 3 ?hg (N := 11) ?hd (xs := ([] : List Int)) (inner := []) (ok := fun _ => True) (okp := fun _ => True) ?hr ?hp (fun _ hk => hk) trivial (Below.refl _ _) (Nat.le_refl _) (by simp) ?_; (case hd => rfl); (case hg => rfl); (case hr => first | (go_simp; done) | (go_simp; rfl)); (case hp => exact (Reps.none _ _)); intro v475 w7 ho8 hb hg_ hnew_; clear hg_ hnew_; (first | rw [← Ny474.out] at ho8 | (simp only [Int.reduceToNat] at ho8; rw [← Ny474.out] at ho8)); have n0_ := Aside0.mk (Kd.R_lower ho8 (below_size (below_up HB.out))); have n1_ := Aside0.mk (blk_below (blk_up BK473.out) hb); have n2_ := Aside0.mk (below_step (below_up HB.out) hb); have HO476 := n0_; replace BK473 := n1_; replace HB := n2_; clear n0_ n1_ n2_; clear hb ho8; obtain ⟨hcz9_0, hcz9_1, hcz9_2⟩ := cells3_ BK473.out; obtain ⟨hfz9_0, hfz9_1, hfz9_2⟩ := frz3_ BK473.out) | (go_at_call 88; (with_reducible refine (spec_Days.calls k a0_0 a0_1 _ _ l0_2 a1 a2 t477 _ ?side1 ?side2 A4.out).mono ?_); (case side1 => exact (Kd.C_below HR0_2.out (below_up HB.out))); (case side2 => exact HC0_2.out); rintro e w10 ⟨rfl, hb⟩; have n0_ := Aside0.mk (Kd.R_below (Kd.R_up HO476.out) hb); have n1_ := Aside0.mk (blk_below (blk_up BK473.out) hb); have n2_ := Aside0.mk (below_step (below_up HB.out) hb); replace HO476 := n0_; replace BK473 := n1_; replace HB := n2_; clear n0_ n1_ n2_; (try clear hb); (try clear hb2); (try clear hk); (try clear hi)))
   repeat (go_quiet (first | ((with_reducible refine gate_dst (N := 3) rfl ?_); refine box_event ?hg (N := 3) ?hd (cs := #[.int .i64 a0_0, .int .i64 a0_1, .slice A0_2 l0_2.length c0_2]) (t := 43) ?hr ?_; (case hd => rfl); (case hg => rfl); (case hr => first | (go_simp; done) | (go_simp; rfl)); intro gb473 hg w6 hbox hb; have n0_ := Aside0.mk (below_step (below_up HB.out) hb); have n1_ := Aside0.mk (hbox); have n2_ := Aside0.mk (szle hg HB.out); have n3_ := Aside0.mk (szle hg HB.out); replace HB := n0_; have BK473 := n1_; have GW473 := n2_; have GE473 := n3_; clear n0_ n1_ n2_ n3_; clear hb hbox hg) | ((with_reducible refine gate_dst (N := 11) rfl ?_); refine Kd.R_lit (Kd.int .i64) _ 3 ?hg (N := 11) ?hd (xs := ([] : List Int)) (inner := []) (ok := fun _ => True) (okp := fun _ => True) ?hr ?hp (fun _ hk => hk) trivial (Below.refl _ _) (Nat.le_refl _) (by simp) ?_; (case hd => rfl); (case hg => rfl); (case hr => first | (go_simp; done) | (go_simp; rfl)); (case hp => exact (Reps.none _ _)); intro v475 w7 ho8 hb hg_ hnew_; clear hg_ hnew_; (first | rw [← Ny474.out] at ho8 | (simp only [Int.reduceToNat] at ho8; rw [← Ny474.out] at ho8)); have n0_ := Aside0.mk (Kd.R_lower ho8 (below_size (below_up HB.out))); have n1_ := Aside0.mk (blk_below (blk_up BK473.out) hb); have n2_ := Aside0.mk (below_step (below_up HB.out) hb); have HO476 := n0_; replace BK473 := n1_; replace HB := n2_; clear n0_ n1_ n2_; clear hb ho8; obtain ⟨hcz9_0, hcz9_1, hcz9_2⟩ := cells3_ BK473.out; obtain ⟨hfz9_0, hfz9_1, hfz9_2⟩ := frz3_ BK473.out) | (go_at_call 88; (with_reducible refine (spec_Days.calls k a0_0 a0_1 _ _ l0_2 a1 a2 t477 _ ?side1 ?side2 A4.out).mono ?_); (case side1 => exact (Kd.C_below HR0_2.out (below_up HB.out))); (case side2 => exact HC0_2.out); rintro e w10 ⟨rfl, hb⟩; have n0_ := Aside0.mk (Kd.R_below (Kd.R_up HO476.out) hb); have n1_ := Aside0.mk (blk_below (blk_up BK473.out) hb); have n2_ := Aside0.mk (below_step (below_up HB.out) hb); replace HO476 := n0_; replace BK473 := n1_; replace HB := n2_; clear n0_ n1_ n2_; (try clear hb); (try clear hb2); (try clear hk); (try clear hi))); try go_wp2_with (first | ((with_reducible refine gate_dst (N := 3) rfl ?_); refine box_event ?hg (N := 3) ?hd (cs := #[.int .i64 a0_0, .int .i64 a0_1, .slice A0_2 l0_2.length c0_2]) (t := 43) ?hr ?_; (case hd => rfl); (case hg => rfl); (case hr => first | (go_simp; done) | (go_simp; rfl)); intro gb473 hg w6 hbox hb; have n0_ := Aside0.mk (below_step (below_up HB.out) hb); have n1_ := Aside0.mk (hbox); have n2_ := Aside0.mk (szle hg HB.out); have n3_ := Aside0.mk (szle hg HB.out); replace HB := n0_; have BK473 := n1_; have GW473 := n2_; have GE473 := n3_; clear n0_ n1_ n2_ n3_; clear hb hbox hg) | ((with_reducible refine gate_dst (N := 11) rfl ?_); refine Kd.R_lit (Kd.int .i64) _ 3 ?hg (N := 11) ?hd (xs := ([] : List Int)) (inner := []) (ok := fun _ => True) (okp := fun _ => True) ?hr ?hp (fun _ hk => hk) trivial (Below.refl _ _) (Nat.le_refl _) (by simp) ?_; (case hd => rfl); (case hg => rfl); (case hr => first | (go_simp; done) | (go_simp; rfl)); (case hp => exact (Reps.none _ _)); intro v475 w7 ho8 hb hg_ hnew_; clear hg_ hnew_; (first | rw [← Ny474.out] at ho8 | (simp only [Int.reduceToNat] at ho8; rw [← Ny474.out] at ho8)); have n0_ := Aside0.mk (Kd.R_lower ho8 (below_size (below_up HB.out))); have n1_ := Aside0.mk (blk_below (blk_up BK473.out) hb); have n2_ := Aside0.mk (below_step (below_up HB.out) hb); have HO476 := n0_; replace BK473 := n1_; replace HB := n2_; clear n0_ n1_ n2_; clear hb ho8; obtain ⟨hcz9_0, hcz9_1, hcz9_2⟩ := cells3_ BK473.out; obtain ⟨hfz9_0, hfz9_1, hfz9_2⟩ := frz3_ BK473.out) | (go_at_call 88; (with_reducible refine (spec_Days.calls k a0_0 a0_1 _ _ l0_2 a1 a2 t477 _ ?side1 ?side2 A4.out).mono ?_); (case side1 => exact (Kd.C_below HR0_2.out (below_up HB.out))); (case side2 => exact HC0_2.out); rintro e w10 ⟨rfl, hb⟩; have n0_ := Aside0.mk (Kd.R_below (Kd.R_up HO476.out) hb); have n1_ := Aside0.mk (blk_below (blk_up BK473.out) hb); have n2_ := Aside0.mk (below_step (below_up HB.out) hb); replace HO476 := n0_; replace BK473 := n1_; replace HB := n2_; clear n0_ n1_ n2_; (try clear hb); (try clear hb2); (try clear hk); (try clear hi))))
   go_ret
   exact ⟨_, by first | rfl | (simp [errW_none, errW_some] <;> rfl) | (simp [*, errW_none, errW_some] <;> rfl), by (with_reducible repeat (first | apply Kd.R_alloc | apply Kd.R_drewN | apply Kd.R_drew)); exact HO476.out, below_up HB.out⟩
 rw [if_neg c5] at H
 have c5b0 : decide (t477 < 0) = false := decide_eq_false c5
 clear c5
 replace H := Option.bind_eq_some_iff.mp H
 obtain ⟨t478, A110, H⟩ := H
 have A11 := Aside0.mk A110
 clear A110
 by_cases c12 : y474.length < 17592186044416
 rotate_left
 · rw [if_neg c12] at H
   exact absurd H (by simp)
 rw [if_pos c12] at H
 have LMc12 := Aside0.mk c12
 clear c12
 obtain ⟨y481, hy481⟩ : ∃ y_ : List Int, y_ = (y474 ++ [a1]) := ⟨_, rfl⟩
 replace H : (spec_WayTo.l0 k a1 a2 y481 t478 a0_0 a0_1 l0_2) = some r := by first | (rw [hy481]; with_reducible exact H) | (have H2_ := (Option.bind_some _ _).symm.trans H; rw [hy481]; with_reducible exact H2_) | (have H2_ := (Option.bind_some _ _).symm.trans H; with_reducible exact H2_) | with_reducible exact H | (rw [hy481]; exact H) | exact H
 have Ny481 := Aside0.mk hy481
 clear hy481
 have H' := Aside0.mk H
 clear H
 go_enter Try.func77, Try.ntmps77
 go_wp2_with (first | ((with_reducible refine gate_dst (N := 3) rfl ?_); refine box_event ?hg (N := 3) ?hd (cs := #[.int .i64 a0_0, .int .i64 a0_1, .slice A0_2 l0_2.length c0_2]) (t := 43) ?hr ?_; (case hd => rfl); (case hg => rfl); (case hr => first | (go_simp; done) | (go_simp; rfl)); intro gb473 hg w13 hbox hb; have n0_ := Aside0.mk (below_step (below_up HB.out) hb); have n1_ := Aside0.mk (hbox); have n2_ := Aside0.mk (szle hg HB.out); have n3_ := Aside0.mk (szle hg HB.out); replace HB := n0_; have BK473 := n1_; have GW473 := n2_; have GE473 := n3_; clear n0_ n1_ n2_ n3_; clear hb hbox hg) | ((with_reducible refine gate_dst (N := 11) rfl ?_); refine Kd.R_lit (Kd.int .i64) _ 3 ?hg (N := 11) ?hd (xs := ([] : List Int)) (inner := []) (ok := fun _ => True) (okp := fun _ => True) ?hr ?hp (fun _ hk => hk) trivial (Below.refl _ _) (Nat.le_refl _) (by simp) ?_; (case hd => rfl); (case hg => rfl); (case hr => first | (go_simp; done) | (go_simp; rfl)); (case hp => exact (Reps.none _ _)); intro v475 w14 ho15 hb hg_ hnew_; clear hg_ hnew_; (first | rw [← Ny474.out] at ho15 | (simp only [Int.reduceToNat] at ho15; rw [← Ny474.out] at ho15)); have n0_ := Aside0.mk (Kd.R_lower ho15 (below_size (below_up HB.out))); have n1_ := Aside0.mk (blk_below (blk_up BK473.out) hb); have n2_ := Aside0.mk (below_step (below_up HB.out) hb); have HO476 := n0_; replace BK473 := n1_; replace HB := n2_; clear n0_ n1_ n2_; clear hb ho15; obtain ⟨hcz16_0, hcz16_1, hcz16_2⟩ := cells3_ BK473.out; obtain ⟨hfz16_0, hfz16_1, hfz16_2⟩ := frz3_ BK473.out) | (go_at_call 88; (with_reducible refine (spec_Days.calls k a0_0 a0_1 _ _ l0_2 a1 a2 t477 _ ?side1 ?side2 A4.out).mono ?_); (case side1 => exact (Kd.C_below HR0_2.out (below_up HB.out))); (case side2 => exact HC0_2.out); rintro e w17 ⟨rfl, hb⟩; have n0_ := Aside0.mk (Kd.R_below (Kd.R_up HO476.out) hb); have n1_ := Aside0.mk (blk_below (blk_up BK473.out) hb); have n2_ := Aside0.mk (below_step (below_up HB.out) hb); replace HO476 := n0_; replace BK473 := n1_; replace HB := n2_; clear n0_ n1_ n2_; (try clear hb); (try clear hb2); (try clear hk); (try clear hi); obtain ⟨hcz18_0, hcz18_1, hcz18_2⟩ := cells3_ BK473.out; obtain ⟨hfz18_0, hfz18_1, hfz18_2⟩ := frz3_ BK473.out) | (go_at_call 89; (with_reducible refine (spec_l5From.calls k a0_0 a0_1 _ _ l0_2 a2 t478 _ ?side1 ?side2 A11.out).mono ?_); (case side1 => exact (Kd.C_below HR0_2.out (below_up HB.out))); (case side2 => exact HC0_2.out); rintro e w19 ⟨v479, rfl, ho0, hb⟩; have n0_ := Aside0.mk (Kd.R_elder' (Kd.R_up HO476.out) (Kd.R_base ho0) hb); have n1_ := Aside0.mk (Kd.R_lower (Kd.R_new' ho0 (Kd.R_lt (Kd.R_up HO476.out))) (below_size (below_up HB.out))); have n2_ := Aside0.mk (blk_below (blk_up BK473.out) hb); have n3_ := Aside0.mk (below_step (below_up HB.out) hb); replace HO476 := n0_; have HO480 := n1_; replace BK473 := n2_; replace HB := n3_; clear n0_ n1_ n2_ n3_; (try clear hb); (try clear hb2); (try clear hk); (try clear hi); (try clear ho0)) | ((with_reducible refine gate_builtin (b := .append) (xs := #[.tmp 21, .tmp 23]) rfl ?_); at_builtin; refine Kd.R_append (Kd.int .i64) (w0 := w) w.heap.size rfl (.tmp 21) (.tmp 23) 36 3 (.int .i64 0) 8 rfl Try.underlying36 info3 rfl (by decide) (by omega) v475 y474 a1 [.int .i64 a1] (fun k_ => some k_ ≠ (v479 : Value).ownBlock) (fun _ => False) rfl rfl ?aP (fun _ hk => hk.elim) ?aF ?aO ?aB ?aS ?aL ?_; (case aP => exact rfl); (case aB => exact (below_up HB.out)); (case aF => exact (fun k_ hk => Kd.fresh' (Kd.R_lt (by (with_reducible repeat (first | apply Kd.R_alloc | apply Kd.R_drewN | apply Kd.R_drew)); exact HO480.out)) k_ hk)); (case aO => exact (by (with_reducible repeat (first | apply Kd.R_alloc | apply Kd.R_drewN | apply Kd.R_drew)); exact Kd.R_mono HO476.out (fun _ hk => hk.2))); (case aS => exact (below_size (below_up HB.out))); (case aL => have := LMc12.out; omega); intro v482 w20 ho hb hg hat; rw [← Ny481.out] at ho; have n0_ := Aside0.mk (blk_grown (blk_up BK473.out) hg (Kd.R_ne HO476.out BK473.out (by decide))); have n1_ := Aside0.mk (Kd.R_after (ok := (fun _ => True)) (Kd.R_up HO480.out) hg hat); have n2_ := Aside0.mk (hb); have n3_ := Aside0.mk (ho); clear BK473; clear HO480; clear HB; clear HO476; have BK473 := n0_; have HO480 := n1_; have HB := n2_; have HO483 := n3_; clear n0_ n1_ n2_ n3_; clear ho hb hg hat))
 repeat (go_quiet (first | ((with_reducible refine gate_dst (N := 3) rfl ?_); refine box_event ?hg (N := 3) ?hd (cs := #[.int .i64 a0_0, .int .i64 a0_1, .slice A0_2 l0_2.length c0_2]) (t := 43) ?hr ?_; (case hd => rfl); (case hg => rfl); (case hr => first | (go_simp; done) | (go_simp; rfl)); intro gb473 hg w13 hbox hb; have n0_ := Aside0.mk (below_step (below_up HB.out) hb); have n1_ := Aside0.mk (hbox); have n2_ := Aside0.mk (szle hg HB.out); have n3_ := Aside0.mk (szle hg HB.out); replace HB := n0_; have BK473 := n1_; have GW473 := n2_; have GE473 := n3_; clear n0_ n1_ n2_ n3_; clear hb hbox hg) | ((with_reducible refine gate_dst (N := 11) rfl ?_); refine Kd.R_lit (Kd.int .i64) _ 3 ?hg (N := 11) ?hd (xs := ([] : List Int)) (inner := []) (ok := fun _ => True) (okp := fun _ => True) ?hr ?hp (fun _ hk => hk) trivial (Below.refl _ _) (Nat.le_refl _) (by simp) ?_; (case hd => rfl); (case hg => rfl); (case hr => first | (go_simp; done) | (go_simp; rfl)); (case hp => exact (Reps.none _ _)); intro v475 w14 ho15 hb hg_ hnew_; clear hg_ hnew_; (first | rw [← Ny474.out] at ho15 | (simp only [Int.reduceToNat] at ho15; rw [← Ny474.out] at ho15)); have n0_ := Aside0.mk (Kd.R_lower ho15 (below_size (below_up HB.out))); have n1_ := Aside0.mk (blk_below (blk_up BK473.out) hb); have n2_ := Aside0.mk (below_step (below_up HB.out) hb); have HO476 := n0_; replace BK473 := n1_; replace HB := n2_; clear n0_ n1_ n2_; clear hb ho15; obtain ⟨hcz16_0, hcz16_1, hcz16_2⟩ := cells3_ BK473.out; obtain ⟨hfz16_0, hfz16_1, hfz16_2⟩ := frz3_ BK473.out) | (go_at_call 88; (with_reducible refine (spec_Days.calls k a0_0 a0_1 _ _ l0_2 a1 a2 t477 _ ?side1 ?side2 A4.out).mono ?_); (case side1 => exact (Kd.C_below HR0_2.out (below_up HB.out))); (case side2 => exact HC0_2.out); rintro e w17 ⟨rfl, hb⟩; have n0_ := Aside0.mk (Kd.R_below (Kd.R_up HO476.out) hb); have n1_ := Aside0.mk (blk_below (blk_up BK473.out) hb); have n2_ := Aside0.mk (below_step (below_up HB.out) hb); replace HO476 := n0_; replace BK473 := n1_; replace HB := n2_; clear n0_ n1_ n2_; (try clear hb); (try clear hb2); (try clear hk); (try clear hi); obtain ⟨hcz18_0, hcz18_1, hcz18_2⟩ := cells3_ BK473.out; obtain ⟨hfz18_0, hfz18_1, hfz18_2⟩ := frz3_ BK473.out) | (go_at_call 89; (with_reducible refine (spec_l5From.calls k a0_0 a0_1 _ _ l0_2 a2 t478 _ ?side1 ?side2 A11.out).mono ?_); (case side1 => exact (Kd.C_below HR0_2.out (below_up HB.out))); (case side2 => exact HC0_2.out); rintro e w19 ⟨v479, rfl, ho0, hb⟩; have n0_ := Aside0.mk (Kd.R_elder' (Kd.R_up HO476.out) (Kd.R_base ho0) hb); have n1_ := Aside0.mk (Kd.R_lower (Kd.R_new' ho0 (Kd.R_lt (Kd.R_up HO476.out))) (below_size (below_up HB.out))); have n2_ := Aside0.mk (blk_below (blk_up BK473.out) hb); have n3_ := Aside0.mk (below_step (below_up HB.out) hb); replace HO476 := n0_; have HO480 := n1_; replace BK473 := n2_; replace HB := n3_; clear n0_ n1_ n2_ n3_; (try clear hb); (try clear hb2); (try clear hk); (try clear hi); (try clear ho0)) | ((with_reducible refine gate_builtin (b := .append) (xs := #[.tmp 21, .tmp 23]) rfl ?_); at_builtin; refine Kd.R_append (Kd.int .i64) (w0 := w) w.heap.size rfl (.tmp 21) (.tmp 23) 36 3 (.int .i64 0) 8 rfl Try.underlying36 info3 rfl (by decide) (by omega) v475 y474 a1 [.int .i64 a1] (fun k_ => some k_ ≠ (v479 : Value).ownBlock) (fun _ => False) rfl rfl ?aP (fun _ hk => hk.elim) ?aF ?aO ?aB ?aS ?aL ?_; (case aP => exact rfl); (case aB => exact (below_up HB.out)); (case aF => exact (fun k_ hk => Kd.fresh' (Kd.R_lt (by (with_reducible repeat (first | apply Kd.R_alloc | apply Kd.R_drewN | apply Kd.R_drew)); exact HO480.out)) k_ hk)); (case aO => exact (by (with_reducible repeat (first | apply Kd.R_alloc | apply Kd.R_drewN | apply Kd.R_drew)); exact Kd.R_mono HO476.out (fun _ hk => hk.2))); (case aS => exact (below_size (below_up HB.out))); (case aL => have := LMc12.out; omega); intro v482 w20 ho hb hg hat; rw [← Ny481.out] at ho; have n0_ := Aside0.mk (blk_grown (blk_up BK473.out) hg (Kd.R_ne HO476.out BK473.out (by decide))); have n1_ := Aside0.mk (Kd.R_after (ok := (fun _ => True)) (Kd.R_up HO480.out) hg hat); have n2_ := Aside0.mk (hb); have n3_ := Aside0.mk (ho); clear BK473; clear HO480; clear HB; clear HO476; have BK473 := n0_; have HO480 := n1_; have HB := n2_; have HO483 := n3_; clear n0_ n1_ n2_ n3_; clear ho hb hg hat)); try go_wp2_with (first | ((with_reducible refine gate_dst (N := 3) rfl ?_); refine box_event ?hg (N := 3) ?hd (cs := #[.int .i64 a0_0, .int .i64 a0_1, .slice A0_2 l0_2.length c0_2]) (t := 43) ?hr ?_; (case hd => rfl); (case hg => rfl); (case hr => first | (go_simp; done) | (go_simp; rfl)); intro gb473 hg w13 hbox hb; have n0_ := Aside0.mk (below_step (below_up HB.out) hb); have n1_ := Aside0.mk (hbox); have n2_ := Aside0.mk (szle hg HB.out); have n3_ := Aside0.mk (szle hg HB.out); replace HB := n0_; have BK473 := n1_; have GW473 := n2_; have GE473 := n3_; clear n0_ n1_ n2_ n3_; clear hb hbox hg) | ((with_reducible refine gate_dst (N := 11) rfl ?_); refine Kd.R_lit (Kd.int .i64) _ 3 ?hg (N := 11) ?hd (xs := ([] : List Int)) (inner := []) (ok := fun _ => True) (okp := fun _ => True) ?hr ?hp (fun _ hk => hk) trivial (Below.refl _ _) (Nat.le_refl _) (by simp) ?_; (case hd => rfl); (case hg => rfl); (case hr => first | (go_simp; done) | (go_simp; rfl)); (case hp => exact (Reps.none _ _)); intro v475 w14 ho15 hb hg_ hnew_; clear hg_ hnew_; (first | rw [← Ny474.out] at ho15 | (simp only [Int.reduceToNat] at ho15; rw [← Ny474.out] at ho15)); have n0_ := Aside0.mk (Kd.R_lower ho15 (below_size (below_up HB.out))); have n1_ := Aside0.mk (blk_below (blk_up BK473.out) hb); have n2_ := Aside0.mk (below_step (below_up HB.out) hb); have HO476 := n0_; replace BK473 := n1_; replace HB := n2_; clear n0_ n1_ n2_; clear hb ho15; obtain ⟨hcz16_0, hcz16_1, hcz16_2⟩ := cells3_ BK473.out; obtain ⟨hfz16_0, hfz16_1, hfz16_2⟩ := frz3_ BK473.out) | (go_at_call 88; (with_reducible refine (spec_Days.calls k a0_0 a0_1 _ _ l0_2 a1 a2 t477 _ ?side1 ?side2 A4.out).mono ?_); (case side1 => exact (Kd.C_below HR0_2.out (below_up HB.out))); (case side2 => exact HC0_2.out); rintro e w17 ⟨rfl, hb⟩; have n0_ := Aside0.mk (Kd.R_below (Kd.R_up HO476.out) hb); have n1_ := Aside0.mk (blk_below (blk_up BK473.out) hb); have n2_ := Aside0.mk (below_step (below_up HB.out) hb); replace HO476 := n0_; replace BK473 := n1_; replace HB := n2_; clear n0_ n1_ n2_; (try clear hb); (try clear hb2); (try clear hk); (try clear hi); obtain ⟨hcz18_0, hcz18_1, hcz18_2⟩ := cells3_ BK473.out; obtain ⟨hfz18_0, hfz18_1, hfz18_2⟩ := frz3_ BK473.out) | (go_at_call 89; (with_reducible refine (spec_l5From.calls k a0_0 a0_1 _ _ l0_2 a2 t478 _ ?side1 ?side2 A11.out).mono ?_); (case side1 => exact (Kd.C_below HR0_2.out (below_up HB.out))); (case side2 => exact HC0_2.out); rintro e w19 ⟨v479, rfl, ho0, hb⟩; have n0_ := Aside0.mk (Kd.R_elder' (Kd.R_up HO476.out) (Kd.R_base ho0) hb); have n1_ := Aside0.mk (Kd.R_lower (Kd.R_new' ho0 (Kd.R_lt (Kd.R_up HO476.out))) (below_size (below_up HB.out))); have n2_ := Aside0.mk (blk_below (blk_up BK473.out) hb); have n3_ := Aside0.mk (below_step (below_up HB.out) hb); replace HO476 := n0_; have HO480 := n1_; replace BK473 := n2_; replace HB := n3_; clear n0_ n1_ n2_ n3_; (try clear hb); (try clear hb2); (try clear hk); (try clear hi); (try clear ho0)) | ((with_reducible refine gate_builtin (b := .append) (xs := #[.tmp 21, .tmp 23]) rfl ?_); at_builtin; refine Kd.R_append (Kd.int .i64) (w0 := w) w.heap.size rfl (.tmp 21) (.tmp 23) 36 3 (.int .i64 0) 8 rfl Try.underlying36 info3 rfl (by decide) (by omega) v475 y474 a1 [.int .i64 a1] (fun k_ => some k_ ≠ (v479 : Value).ownBlock) (fun _ => False) rfl rfl ?aP (fun _ hk => hk.elim) ?aF ?aO ?aB ?aS ?aL ?_; (case aP => exact rfl); (case aB => exact (below_up HB.out)); (case aF => exact (fun k_ hk => Kd.fresh' (Kd.R_lt (by (with_reducible repeat (first | apply Kd.R_alloc | apply Kd.R_drewN | apply Kd.R_drew)); exact HO480.out)) k_ hk)); (case aO => exact (by (with_reducible repeat (first | apply Kd.R_alloc | apply Kd.R_drewN | apply Kd.R_drew)); exact Kd.R_mono HO476.out (fun _ hk => hk.2))); (case aS => exact (below_size (below_up HB.out))); (case aL => have := LMc12.out; omega); intro v482 w20 ho hb hg hat; rw [← Ny481.out] at ho; have n0_ := Aside0.mk (blk_grown (blk_up BK473.out) hg (Kd.R_ne HO476.out BK473.out (by decide))); have n1_ := Aside0.mk (Kd.R_after (ok := (fun _ => True)) (Kd.R_up HO480.out) hg hat); have n2_ := Aside0.mk (hb); have n3_ := Aside0.mk (ho); clear BK473; clear HO480; clear HB; clear HO476; have BK473 := n0_; have HO480 := n1_; have HB := n2_; have HO483 := n3_; clear n0_ n1_ n2_ n3_; clear ho hb hg hat)))
 go_loopg [1, 7] k (fun kq v1 v7 w' => ∃ (x1_1 : Int) (x7_1 : List Int), v1 = .int .i64 x1_1 ∧ Aside0 (spec_WayTo.l0 kq x1_1 a2 x7_1 t478 a0_0 a0_1 l0_2 = some r) ∧ Aside0 (kq ≤ k) ∧ Aside0 (Kd.R (Kd.int .i64) 3 w' w.heap.size (fun k_ => some k_ ≠ (v479 : Value).ownBlock) v7 x7_1) ∧ Aside0 (Kd.R (Kd.int .i64) 3 w' w.heap.size (fun k_ => some k_ ≠ (v7 : Value).ownBlock) v479 t478) ∧ Aside0 (w'.heap[gb473]? = some (.cells #[.int .i64 a0_0, .int .i64 a0_1, (.slice A0_2 l0_2.length c0_2)] 43 (0, 0))) ∧ Aside0 (Below w.heap.size w w'))
 case atStart => exact ⟨(a1), (y481), (by first | rfl | (simp; done) | (simp [*]; done)), H', ⟨Nat.le_refl _⟩, ⟨by (with_reducible repeat (first | apply Kd.R_alloc | apply Kd.R_drewN | apply Kd.R_drew)); exact HO483.out⟩, ⟨by (with_reducible repeat (first | apply Kd.R_alloc | apply Kd.R_drewN | apply Kd.R_drew)); exact Kd.R_mono HO480.out (fun _ hk => hk.2)⟩, ⟨by (with_reducible repeat (first | refine blk_drewN ?_ _ | refine blk_drew ?_ | refine blk_alloc ?_ _)); exact BK473.out⟩, ⟨below_up HB.out⟩⟩
 case round =>
  clear H'
  try clear c1
  try clear p2
  try clear c5
  try clear c5b0
  try clear c7
  try clear c12
  try clear hcz16_0
  try clear hcz16_1
  try clear hcz16_2
  try clear hcz18_0
  try clear hcz18_1
  try clear hcz18_2
  try clear hcz9_0
  try clear hcz9_1
  try clear hcz9_2
  try clear hfz16_0
  try clear hfz16_1
  try clear hfz16_2
  try clear hfz18_0
  try clear hfz18_1
  try clear hfz18_2
  try clear hfz9_0
  try clear hfz9_1
  try clear hfz9_2
  obtain ⟨x1_1, x7_1, rfl, HA, HK1, HO_7, HO_8, BK473, HB⟩ := hrel
  cases gk with
  | zero => exact absurd HA.out (by simp [spec_WayTo.l0])
  | succ k1 =>
   have H := HA.out
   clear HA
   simp only [spec_WayTo.l0] at H
   by_cases c21 : x1_1 = a2
   · rw [if_pos c21] at H
     have c21b0 : (x1_1 == a2) = true := beq_iff_eq.mpr c21
     have c21b1 : (x1_1 != a2) = false := bne_eq_false_iff_eq.mpr c21
     clear c21
     obtain rfl := Option.some.inj H
     go_wp2
     repeat (go_quiet (fail); try go_wp2)
     go_ret
     exact ⟨_, by first | rfl | (simp [errW_none, errW_some] <;> rfl) | (simp [*, errW_none, errW_some] <;> rfl), by (with_reducible repeat (first | apply Kd.R_alloc | apply Kd.R_drewN | apply Kd.R_drew)); exact Kd.R_mono HO_7.out (fun _ hk => trivial), below_up HB.out⟩
   rw [if_neg c21] at H
   have c21b0 : (x1_1 == a2) = false := beq_eq_false_iff_ne.mpr c21
   have c21b1 : (x1_1 != a2) = true := bne_iff_ne.mpr c21
   replace H := Option.bind_eq_some_iff.mp H
   obtain ⟨t484, A220, H⟩ := H
   have A22 := Aside0.mk A220
   clear A220
   have H' := Aside0.mk H
   clear H
   obtain ⟨hcz23_0, hcz23_1, hcz23_2⟩ := cells3_ BK473.out
   obtain ⟨hfz23_0, hfz23_1, hfz23_2⟩ := frz3_ BK473.out
   go_wp2_with (first | (go_at_call 90; (with_reducible refine (spec_l4Near.calls k1 a0_0 a0_1 _ _ l0_2 x1_1 t484 _ ?side1 ?side2 A22.out).mono ?_); (case side1 => exact (Kd.C_below HR0_2.out (below_up HB.out))); (case side2 => exact HC0_2.out); rintro e w24 ⟨v485, rfl, ho0, hb⟩; have n0_ := Aside0.mk (Kd.R_elder' (Kd.R_up HO_7.out) (Kd.R_base ho0) hb); have n1_ := Aside0.mk (Kd.R_elder' (Kd.R_up HO_8.out) (Kd.R_base ho0) hb); have n2_ := Aside0.mk (Kd.R_lower (Kd.R_new' (Kd.R_new' ho0 (Kd.R_lt (Kd.R_up HO_7.out))) (Kd.R_lt (Kd.R_up HO_8.out))) (below_size (below_up HB.out))); have n3_ := Aside0.mk (blk_below (blk_up BK473.out) hb); have n4_ := Aside0.mk (below_step (below_up HB.out) hb); replace HO_7 := n0_; replace HO_8 := n1_; have HO486 := n2_; replace BK473 := n3_; replace HB := n4_; clear n0_ n1_ n2_ n3_ n4_; (try clear hb); (try clear hb2); (try clear hk); (try clear hi); (try clear ho0); obtain ⟨Ao25, co25, eo25⟩ := Kd.R_slice HO486.out; subst eo25))
   repeat (go_quiet (first | (go_at_call 90; (with_reducible refine (spec_l4Near.calls k1 a0_0 a0_1 _ _ l0_2 x1_1 t484 _ ?side1 ?side2 A22.out).mono ?_); (case side1 => exact (Kd.C_below HR0_2.out (below_up HB.out))); (case side2 => exact HC0_2.out); rintro e w24 ⟨v485, rfl, ho0, hb⟩; have n0_ := Aside0.mk (Kd.R_elder' (Kd.R_up HO_7.out) (Kd.R_base ho0) hb); have n1_ := Aside0.mk (Kd.R_elder' (Kd.R_up HO_8.out) (Kd.R_base ho0) hb); have n2_ := Aside0.mk (Kd.R_lower (Kd.R_new' (Kd.R_new' ho0 (Kd.R_lt (Kd.R_up HO_7.out))) (Kd.R_lt (Kd.R_up HO_8.out))) (below_size (below_up HB.out))); have n3_ := Aside0.mk (blk_below (blk_up BK473.out) hb); have n4_ := Aside0.mk (below_step (below_up HB.out) hb); replace HO_7 := n0_; replace HO_8 := n1_; have HO486 := n2_; replace BK473 := n3_; replace HB := n4_; clear n0_ n1_ n2_ n3_ n4_; (try clear hb); (try clear hb2); (try clear hk); (try clear hi); (try clear ho0); obtain ⟨Ao25, co25, eo25⟩ := Kd.R_slice HO486.out; subst eo25)); try go_wp2_with (first | (go_at_call 90; (with_reducible refine (spec_l4Near.calls k1 a0_0 a0_1 _ _ l0_2 x1_1 t484 _ ?side1 ?side2 A22.out).mono ?_); (case side1 => exact (Kd.C_below HR0_2.out (below_up HB.out))); (case side2 => exact HC0_2.out); rintro e w24 ⟨v485, rfl, ho0, hb⟩; have n0_ := Aside0.mk (Kd.R_elder' (Kd.R_up HO_7.out) (Kd.R_base ho0) hb); have n1_ := Aside0.mk (Kd.R_elder' (Kd.R_up HO_8.out) (Kd.R_base ho0) hb); have n2_ := Aside0.mk (Kd.R_lower (Kd.R_new' (Kd.R_new' ho0 (Kd.R_lt (Kd.R_up HO_7.out))) (Kd.R_lt (Kd.R_up HO_8.out))) (below_size (below_up HB.out))); have n3_ := Aside0.mk (blk_below (blk_up BK473.out) hb); have n4_ := Aside0.mk (below_step (below_up HB.out) hb); replace HO_7 := n0_; replace HO_8 := n1_; have HO486 := n2_; replace BK473 := n3_; replace HB := n4_; clear n0_ n1_ n2_ n3_ n4_; (try clear hb); (try clear hb2); (try clear hk); (try clear hi); (try clear ho0); obtain ⟨Ao25, co25, eo25⟩ := Kd.R_slice HO486.out; subst eo25)))
   go_loopg [1, 10] k1 (fun kq v1 v10 w' => ∃ (x1_2 : Int) (x10_2 : Int), v1 = .int .i64 x1_2 ∧ v10 = .int .i64 x10_2 ∧ Aside0 (spec_WayTo.l1 kq x1_2 a2 x7_1 t478 t484 x10_2 a0_0 a0_1 l0_2 = some r) ∧ Aside0 (kq ≤ k1) ∧ Aside0 (Kd.R (Kd.int .i64) 3 w' w.heap.size (fun k_ => some k_ ≠ (v479 : Value).ownBlock ∧ some k_ ≠ ((.slice Ao25 t484.length co25) : Value).ownBlock) u7 x7_1) ∧ Aside0 (Kd.R (Kd.int .i64) 3 w' w.heap.size (fun k_ => some k_ ≠ (u7 : Value).ownBlock ∧ some k_ ≠ ((.slice Ao25 t484.length co25) : Value).ownBlock) v479 t478) ∧ Aside0 (Kd.R (Kd.int .i64) 3 w' w.heap.size (fun k_ => some k_ ≠ (u7 : Value).ownBlock ∧ some k_ ≠ (v479 : Value).ownBlock) (.slice Ao25 t484.length co25) t484) ∧ Aside0 (w'.heap[gb473]? = some (.cells #[.int .i64 a0_0, .int .i64 a0_1, (.slice A0_2 l0_2.length c0_2)] 43 (0, 0))) ∧ Aside0 (Below w.heap.size w w'))
   case atStart => exact ⟨(x1_1), (wrap64 ((t484.length : Int) - 1)), (by first | rfl | (simp; done) | (simp [*]; done)), (by first | rfl | (simp; done) | (simp [*]; done)), H', ⟨Nat.le_refl _⟩, ⟨by (with_reducible repeat (first | apply Kd.R_alloc | apply Kd.R_drewN | apply Kd.R_drew)); exact HO_7.out⟩, ⟨by (with_reducible repeat (first | apply Kd.R_alloc | apply Kd.R_drewN | apply Kd.R_drew)); exact HO_8.out⟩, ⟨by (with_reducible repeat (first | apply Kd.R_alloc | apply Kd.R_drewN | apply Kd.R_drew)); exact Kd.R_mono HO486.out (fun _ hk => ⟨hk.1.2, hk.2⟩)⟩, ⟨by (with_reducible repeat (first | refine blk_drewN ?_ _ | refine blk_drew ?_ | refine blk_alloc ?_ _)); exact BK473.out⟩, ⟨below_up HB.out⟩⟩
   case round =>
    clear H'
    try clear c1
    try clear c2
    try clear p2
    try clear c5
    try clear c5b0
    try clear p6
    try clear c7
    try clear c12
    try clear c21
    try clear c21b0
    try clear c21b1
    try clear hcz16_0
    try clear hcz16_1
    try clear hcz16_2
    try clear hcz18_0
    try clear hcz18_1
    try clear hcz18_2
    try clear hcz23_0
    try clear hcz23_1
    try clear hcz23_2
    try clear hcz9_0
    try clear hcz9_1
    try clear hcz9_2
    try clear hfz16_0
    try clear hfz16_1
    try clear hfz16_2
    try clear hfz18_0
    try clear hfz18_1
    try clear hfz18_2
    try clear hfz23_0
    try clear hfz23_1
    try clear hfz23_2
    try clear hfz9_0
    try clear hfz9_1
    try clear hfz9_2
    try clear p2
    obtain ⟨x1_2, x10_2, rfl, rfl, HA, HK2, HO_7, HO_8, HO_9, BK473, HB⟩ := hrel
    cases gk with
    | zero => exact absurd HA.out (by simp [spec_WayTo.l1])
    | succ k2 =>
     have H := HA.out
     clear HA
     simp only [spec_WayTo.l1] at H
     by_cases c26 : x10_2 ≥ 0
     · rw [if_pos c26] at H
       have c26b0 : decide (0 ≤ x10_2) = true := decide_eq_true c26
       clear c26
       by_cases c27 : 0 ≤ x10_2
       rotate_left
       · rw [if_neg c27] at H
         exact absurd H (by simp)
       rw [if_pos c27] at H
       have c27b0 : decide (0 ≤ x10_2) = true := decide_eq_true c27
       clear c27
       by_cases c28 : x10_2 < (t484.length : Int)
       rotate_left
       · rw [if_neg c28] at H
         exact absurd H (by simp)
       rw [if_pos c28] at H
       have c28b0 : decide (x10_2 < (t484.length : Int)) = true := decide_eq_true c28
       clear c28
       by_cases c29 : 0 ≤ (rd t484 x10_2)
       rotate_left
       · rw [if_neg c29] at H
         exact absurd H (by simp)
       rw [if_pos c29] at H
       have c29b0 : decide (0 ≤ (rd t484 x10_2)) = true := decide_eq_true c29
       clear c29
       by_cases c30 : (rd t484 x10_2) < (t478.length : Int)
       rotate_left
       · rw [if_neg c30] at H
         exact absurd H (by simp)
       rw [if_pos c30] at H
       have c30b0 : decide ((rd t484 x10_2) < (t478.length : Int)) = true := decide_eq_true c30
       clear c30
       obtain ⟨ji31, hji31⟩ : ∃ j_ : Int, (wrap64 ((x7_1.length : Int) - 1)) = j_ := ⟨_, rfl⟩
       replace H : (if 0 ≤ (ji31) then (if (ji31) < (x7_1.length : Int) then (if 0 ≤ (rd x7_1 (ji31)) then (if (rd x7_1 (ji31)) < (t478.length : Int) then (if (rd t478 (rd t484 x10_2)) = (wrap64 ((rd t478 (rd x7_1 (ji31))) - 1)) then (spec_WayTo.l1 k2 (rd t484 x10_2) a2 x7_1 t478 t484 (wrap64 (x10_2 - 1)) a0_0 a0_1 l0_2) else (spec_WayTo.l1 k2 x1_2 a2 x7_1 t478 t484 (wrap64 (x10_2 - 1)) a0_0 a0_1 l0_2)) else (none)) else (none)) else (none)) else (none)) = some r := by first | (rw [hji31] at H; exact H) | (simp only [hji31] at H ⊢; exact H)
       have hji31w : (IntKind.i64.wrap ((x7_1.length : Int) - 1)) = ji31 := (i64_w _).trans hji31
       by_cases c32 : 0 ≤ (ji31)
       rotate_left
       · rw [if_neg c32] at H
         exact absurd H (by simp)
       rw [if_pos c32] at H
       have c32b0 : decide (0 ≤ (ji31)) = true := decide_eq_true c32
       clear c32
       by_cases c33 : (ji31) < (x7_1.length : Int)
       rotate_left
       · rw [if_neg c33] at H
         exact absurd H (by simp)
       rw [if_pos c33] at H
       have c33b0 : decide ((ji31) < (x7_1.length : Int)) = true := decide_eq_true c33
       clear c33
       by_cases c34 : 0 ≤ (rd x7_1 (ji31))
       rotate_left
       · rw [if_neg c34] at H
         exact absurd H (by simp)
       rw [if_pos c34] at H
       have c34b0 : decide (0 ≤ (rd x7_1 (ji31))) = true := decide_eq_true c34
       clear c34
       by_cases c35 : (rd x7_1 (ji31)) < (t478.length : Int)
       rotate_left
       · rw [if_neg c35] at H
         exact absurd H (by simp)
       rw [if_pos c35] at H
       have c35b0 : decide ((rd x7_1 (ji31)) < (t478.length : Int)) = true := decide_eq_true c35
       clear c35
       by_cases c36 : (rd t478 (rd t484 x10_2)) = (wrap64 ((rd t478 (rd x7_1 (ji31))) - 1))
       rotate_left
       · rw [if_neg c36] at H
         have c36b0 : ((rd t478 (rd t484 x10_2)) == (wrap64 ((rd t478 (rd x7_1 (ji31))) - 1))) = false := beq_eq_false_iff_ne.mpr c36
         have c36b1 : ((rd t478 (rd t484 x10_2)) != (wrap64 ((rd t478 (rd x7_1 (ji31))) - 1))) = true := bne_iff_ne.mpr c36
         have H' := Aside0.mk H
         clear H
         have p487 : 0 ≤ (x10_2 : Int) := of_decide_eq_true (by first | (with_reducible assumption) | assumption)
         have q487 : x10_2 < (t484.length : Int) := of_decide_eq_true (by first | (with_reducible assumption) | assumption)
         obtain ⟨ad487, e487, hx487_0⟩ := Kd.at_int (Kd.R_reads' HO_9.out).2.2 x10_2 p487 q487
         cases e487
         replace p487 := eq_true p487
         replace q487 := eq_true q487
         obtain ⟨Ao39, co39, eo39⟩ := Kd.R_slice HO_8.out
         subst eo39
         have p488 : 0 ≤ ((rd t484 x10_2) : Int) := of_decide_eq_true (by first | (with_reducible assumption) | assumption)
         have q488 : (rd t484 x10_2) < (t478.length : Int) := of_decide_eq_true (by first | (with_reducible assumption) | assumption)
         obtain ⟨ad488, e488, hx488_0⟩ := Kd.at_int (Kd.R_reads' HO_8.out).2.2 (rd t484 x10_2) p488 q488
         cases e488
         replace p488 := eq_true p488
         replace q488 := eq_true q488
         obtain ⟨Ao40, co40, eo40⟩ := Kd.R_slice HO_7.out
         subst eo40
         have p489 : 0 ≤ ((ji31) : Int) := of_decide_eq_true (by first | (with_reducible assumption) | assumption)
         have q489 : (ji31) < (x7_1.length : Int) := of_decide_eq_true (by first | (with_reducible assumption) | assumption)
         obtain ⟨ad489, e489, hx489_0⟩ := Kd.at_int (Kd.R_reads' HO_7.out).2.2 (ji31) p489 q489
         cases e489
         replace p489 := eq_true p489
         replace q489 := eq_true q489
         have p490 : 0 ≤ ((rd x7_1 (ji31)) : Int) := of_decide_eq_true (by first | (with_reducible assumption) | assumption)
         have q490 : (rd x7_1 (ji31)) < (t478.length : Int) := of_decide_eq_true (by first | (with_reducible assumption) | assumption)
         obtain ⟨ad490, e490, hx490_0⟩ := Kd.at_int (Kd.R_reads' HO_8.out).2.2 (rd x7_1 (ji31)) p490 q490
         obtain rfl : ad488 = ad490 := (by injection e490)
         replace p490 := eq_true p490
         replace q490 := eq_true q490
         go_wp2
         repeat (go_quiet (fail); try go_wp2)
         go_roundg k2
         case measure => have := HK1.out; have := HK2.out; omega
         case rel => exact ⟨(x1_2), (wrap64 (x10_2 - 1)), (by first | rfl | (simp; done) | (simp [*]; done)), (by first | rfl | (simp; done) | (simp [*]; done)), H', ⟨by have := HK1.out; have := HK2.out; omega⟩, ⟨by (with_reducible repeat (first | apply Kd.R_alloc | apply Kd.R_drewN | apply Kd.R_drew)); exact HO_7.out⟩, ⟨by (with_reducible repeat (first | apply Kd.R_alloc | apply Kd.R_drewN | apply Kd.R_drew)); exact HO_8.out⟩, ⟨by (with_reducible repeat (first | apply Kd.R_alloc | apply Kd.R_drewN | apply Kd.R_drew)); exact HO_9.out⟩, ⟨by (with_reducible repeat (first | refine blk_drewN ?_ _ | refine blk_drew ?_ | refine blk_alloc ?_ _)); exact BK473.out⟩, ⟨below_up HB.out⟩⟩
       rw [if_pos c36] at H
       have c36b0 : ((rd t478 (rd t484 x10_2)) == (wrap64 ((rd t478 (rd x7_1 (ji31))) - 1))) = true := beq_iff_eq.mpr c36
       have c36b1 : ((rd t478 (rd t484 x10_2)) != (wrap64 ((rd t478 (rd x7_1 (ji31))) - 1))) = false := bne_eq_false_iff_eq.mpr c36
       clear c36
       have H' := Aside0.mk H
       clear H
       have p487 : 0 ≤ (x10_2 : Int) := of_decide_eq_true (by first | (with_reducible assumption) | assumption)
       have q487 : x10_2 < (t484.length : Int) := of_decide_eq_true (by first | (with_reducible assumption) | assumption)
       obtain ⟨ad487, e487, hx487_0⟩ := Kd.at_int (Kd.R_reads' HO_9.out).2.2 x10_2 p487 q487
       cases e487
       replace p487 := eq_true p487
       replace q487 := eq_true q487
       obtain ⟨Ao37, co37, eo37⟩ := Kd.R_slice HO_8.out
       subst eo37
       have p488 : 0 ≤ ((rd t484 x10_2) : Int) := of_decide_eq_true (by first | (with_reducible assumption) | assumption)
       have q488 : (rd t484 x10_2) < (t478.length : Int) := of_decide_eq_true (by first | (with_reducible assumption) | assumption)
       obtain ⟨ad488, e488, hx488_0⟩ := Kd.at_int (Kd.R_reads' HO_8.out).2.2 (rd t484 x10_2) p488 q488
       cases e488
       replace p488 := eq_true p488
       replace q488 := eq_true q488
       obtain ⟨Ao38, co38, eo38⟩ := Kd.R_slice HO_7.out
       subst eo38
       have p489 : 0 ≤ ((ji31) : Int) := of_decide_eq_true (by first | (with_reducible assumption) | assumption)
       have q489 : (ji31) < (x7_1.length : Int) := of_decide_eq_true (by first | (with_reducible assumption) | assumption)
       obtain ⟨ad489, e489, hx489_0⟩ := Kd.at_int (Kd.R_reads' HO_7.out).2.2 (ji31) p489 q489
       cases e489
       replace p489 := eq_true p489
       replace q489 := eq_true q489
       have p490 : 0 ≤ ((rd x7_1 (ji31)) : Int) := of_decide_eq_true (by first | (with_reducible assumption) | assumption)
       have q490 : (rd x7_1 (ji31)) < (t478.length : Int) := of_decide_eq_true (by first | (with_reducible assumption) | assumption)
       obtain ⟨ad490, e490, hx490_0⟩ := Kd.at_int (Kd.R_reads' HO_8.out).2.2 (rd x7_1 (ji31)) p490 q490
       obtain rfl : ad488 = ad490 := (by injection e490)
       replace p490 := eq_true p490
       replace q490 := eq_true q490
       have p491 : 0 ≤ (x10_2 : Int) := of_decide_eq_true (by first | (with_reducible assumption) | assumption)
       have q491 : x10_2 < (t484.length : Int) := of_decide_eq_true (by first | (with_reducible assumption) | assumption)
       obtain ⟨ad491, e491, hx491_0⟩ := Kd.at_int (Kd.R_reads' HO_9.out).2.2 x10_2 p491 q491
       obtain rfl : ad487 = ad491 := (by injection e491)
       replace p491 := eq_true p491
       replace q491 := eq_true q491
       go_wp2
       repeat (go_quiet (fail); try go_wp2)
       go_roundg k2
       case measure => have := HK1.out; have := HK2.out; omega
       case rel => exact ⟨(rd t484 x10_2), (wrap64 (x10_2 - 1)), (by first | rfl | (simp; done) | (simp [*]; done)), (by first | rfl | (simp; done) | (simp [*]; done)), H', ⟨by have := HK1.out; have := HK2.out; omega⟩, ⟨by (with_reducible repeat (first | apply Kd.R_alloc | apply Kd.R_drewN | apply Kd.R_drew)); exact HO_7.out⟩, ⟨by (with_reducible repeat (first | apply Kd.R_alloc | apply Kd.R_drewN | apply Kd.R_drew)); exact HO_8.out⟩, ⟨by (with_reducible repeat (first | apply Kd.R_alloc | apply Kd.R_drewN | apply Kd.R_drew)); exact HO_9.out⟩, ⟨by (with_reducible repeat (first | refine blk_drewN ?_ _ | refine blk_drew ?_ | refine blk_alloc ?_ _)); exact BK473.out⟩, ⟨below_up HB.out⟩⟩
     rw [if_neg c26] at H
     have c26b0 : decide (0 ≤ x10_2) = false := decide_eq_false c26
     clear c26
     by_cases c41 : x7_1.length < 17592186044416
     rotate_left
     · rw [if_neg c41] at H
       exact absurd H (by simp)
     rw [if_pos c41] at H
     have LMc41 := Aside0.mk c41
     clear c41
     obtain ⟨y492, hy492⟩ : ∃ y_ : List Int, y_ = (x7_1 ++ [x1_2]) := ⟨_, rfl⟩
     replace H : (spec_WayTo.l0 k2 x1_2 a2 y492 t478 a0_0 a0_1 l0_2) = some r := by first | (rw [hy492]; with_reducible exact H) | (have H2_ := (Option.bind_some _ _).symm.trans H; rw [hy492]; with_reducible exact H2_) | (have H2_ := (Option.bind_some _ _).symm.trans H; with_reducible exact H2_) | with_reducible exact H | (rw [hy492]; exact H) | exact H
     have Ny492 := Aside0.mk hy492
     clear hy492
     have H' := Aside0.mk H
     clear H
     go_wp2_with (first | ((with_reducible refine gate_builtin (b := .append) (xs := #[.tmp 60, .tmp 62]) rfl ?_); at_builtin; refine Kd.R_append (Kd.int .i64) (w0 := w) w.heap.size rfl (.tmp 60) (.tmp 62) 36 3 (.int .i64 0) 8 rfl Try.underlying36 info3 rfl (by decide) (by omega) u7 x7_1 x1_2 [.int .i64 x1_2] (fun k_ => some k_ ≠ (v479 : Value).ownBlock ∧ some k_ ≠ (.slice Ao25 t484.length co25 : Value).ownBlock) (fun _ => False) rfl rfl ?aP (fun _ hk => hk.elim) ?aF ?aO ?aB ?aS ?aL ?_; (case aP => exact rfl); (case aB => exact (below_up HB.out)); (case aF => exact (fun k_ hk => ⟨Kd.fresh' (Kd.R_lt (by (with_reducible repeat (first | apply Kd.R_alloc | apply Kd.R_drewN | apply Kd.R_drew)); exact HO_8.out)) k_ hk, Kd.fresh' (Kd.R_lt (by (with_reducible repeat (first | apply Kd.R_alloc | apply Kd.R_drewN | apply Kd.R_drew)); exact HO_9.out)) k_ hk⟩)); (case aO => exact (by (with_reducible repeat (first | apply Kd.R_alloc | apply Kd.R_drewN | apply Kd.R_drew)); exact HO_7.out)); (case aS => exact (below_size (below_up HB.out))); (case aL => have := LMc41.out; omega); intro v493 w42 ho hb hg hat; rw [← Ny492.out] at ho; have n0_ := Aside0.mk (Kd.R_after (ok := (fun k_ => some k_ ≠ (.slice Ao25 t484.length co25 : Value).ownBlock)) (by (with_reducible repeat (first | apply Kd.R_alloc | apply Kd.R_drewN | apply Kd.R_drew)); exact Kd.R_mono HO_8.out (fun _ hk => ⟨hk.2, hk.1⟩)) hg hat); have n1_ := Aside0.mk (Kd.R_after (ok := (fun k_ => some k_ ≠ (v479 : Value).ownBlock)) (by (with_reducible repeat (first | apply Kd.R_alloc | apply Kd.R_drewN | apply Kd.R_drew)); exact Kd.R_mono HO_9.out (fun _ hk => ⟨hk.2, hk.1⟩)) hg hat); have n2_ := Aside0.mk (blk_grown (blk_up BK473.out) hg (Kd.R_ne HO_7.out BK473.out (by decide))); have n3_ := Aside0.mk (hb); have n4_ := Aside0.mk (ho); clear HO_8; clear HO_9; clear BK473; clear HB; clear HO_7; have HO_8 := n0_; have HO_9 := n1_; have BK473 := n2_; have HB := n3_; have HO494 := n4_; clear n0_ n1_ n2_ n3_ n4_; clear ho hb hg hat))
     repeat (go_quiet (first | ((with_reducible refine gate_builtin (b := .append) (xs := #[.tmp 60, .tmp 62]) rfl ?_); at_builtin; refine Kd.R_append (Kd.int .i64) (w0 := w) w.heap.size rfl (.tmp 60) (.tmp 62) 36 3 (.int .i64 0) 8 rfl Try.underlying36 info3 rfl (by decide) (by omega) u7 x7_1 x1_2 [.int .i64 x1_2] (fun k_ => some k_ ≠ (v479 : Value).ownBlock ∧ some k_ ≠ (.slice Ao25 t484.length co25 : Value).ownBlock) (fun _ => False) rfl rfl ?aP (fun _ hk => hk.elim) ?aF ?aO ?aB ?aS ?aL ?_; (case aP => exact rfl); (case aB => exact (below_up HB.out)); (case aF => exact (fun k_ hk => ⟨Kd.fresh' (Kd.R_lt (by (with_reducible repeat (first | apply Kd.R_alloc | apply Kd.R_drewN | apply Kd.R_drew)); exact HO_8.out)) k_ hk, Kd.fresh' (Kd.R_lt (by (with_reducible repeat (first | apply Kd.R_alloc | apply Kd.R_drewN | apply Kd.R_drew)); exact HO_9.out)) k_ hk⟩)); (case aO => exact (by (with_reducible repeat (first | apply Kd.R_alloc | apply Kd.R_drewN | apply Kd.R_drew)); exact HO_7.out)); (case aS => exact (below_size (below_up HB.out))); (case aL => have := LMc41.out; omega); intro v493 w42 ho hb hg hat; rw [← Ny492.out] at ho; have n0_ := Aside0.mk (Kd.R_after (ok := (fun k_ => some k_ ≠ (.slice Ao25 t484.length co25 : Value).ownBlock)) (by (with_reducible repeat (first | apply Kd.R_alloc | apply Kd.R_drewN | apply Kd.R_drew)); exact Kd.R_mono HO_8.out (fun _ hk => ⟨hk.2, hk.1⟩)) hg hat); have n1_ := Aside0.mk (Kd.R_after (ok := (fun k_ => some k_ ≠ (v479 : Value).ownBlock)) (by (with_reducible repeat (first | apply Kd.R_alloc | apply Kd.R_drewN | apply Kd.R_drew)); exact Kd.R_mono HO_9.out (fun _ hk => ⟨hk.2, hk.1⟩)) hg hat); have n2_ := Aside0.mk (blk_grown (blk_up BK473.out) hg (Kd.R_ne HO_7.out BK473.out (by decide))); have n3_ := Aside0.mk (hb); have n4_ := Aside0.mk (ho); clear HO_8; clear HO_9; clear BK473; clear HB; clear HO_7; have HO_8 := n0_; have HO_9 := n1_; have BK473 := n2_; have HB := n3_; have HO494 := n4_; clear n0_ n1_ n2_ n3_ n4_; clear ho hb hg hat)); try go_wp2_with (first | ((with_reducible refine gate_builtin (b := .append) (xs := #[.tmp 60, .tmp 62]) rfl ?_); at_builtin; refine Kd.R_append (Kd.int .i64) (w0 := w) w.heap.size rfl (.tmp 60) (.tmp 62) 36 3 (.int .i64 0) 8 rfl Try.underlying36 info3 rfl (by decide) (by omega) u7 x7_1 x1_2 [.int .i64 x1_2] (fun k_ => some k_ ≠ (v479 : Value).ownBlock ∧ some k_ ≠ (.slice Ao25 t484.length co25 : Value).ownBlock) (fun _ => False) rfl rfl ?aP (fun _ hk => hk.elim) ?aF ?aO ?aB ?aS ?aL ?_; (case aP => exact rfl); (case aB => exact (below_up HB.out)); (case aF => exact (fun k_ hk => ⟨Kd.fresh' (Kd.R_lt (by (with_reducible repeat (first | apply Kd.R_alloc | apply Kd.R_drewN | apply Kd.R_drew)); exact HO_8.out)) k_ hk, Kd.fresh' (Kd.R_lt (by (with_reducible repeat (first | apply Kd.R_alloc | apply Kd.R_drewN | apply Kd.R_drew)); exact HO_9.out)) k_ hk⟩)); (case aO => exact (by (with_reducible repeat (first | apply Kd.R_alloc | apply Kd.R_drewN | apply Kd.R_drew)); exact HO_7.out)); (case aS => exact (below_size (below_up HB.out))); (case aL => have := LMc41.out; omega); intro v493 w42 ho hb hg hat; rw [← Ny492.out] at ho; have n0_ := Aside0.mk (Kd.R_after (ok := (fun k_ => some k_ ≠ (.slice Ao25 t484.length co25 : Value).ownBlock)) (by (with_reducible repeat (first | apply Kd.R_alloc | apply Kd.R_drewN | apply Kd.R_drew)); exact Kd.R_mono HO_8.out (fun _ hk => ⟨hk.2, hk.1⟩)) hg hat); have n1_ := Aside0.mk (Kd.R_after (ok := (fun k_ => some k_ ≠ (v479 : Value).ownBlock)) (by (with_reducible repeat (first | apply Kd.R_alloc | apply Kd.R_drewN | apply Kd.R_drew)); exact Kd.R_mono HO_9.out (fun _ hk => ⟨hk.2, hk.1⟩)) hg hat); have n2_ := Aside0.mk (blk_grown (blk_up BK473.out) hg (Kd.R_ne HO_7.out BK473.out (by decide))); have n3_ := Aside0.mk (hb); have n4_ := Aside0.mk (ho); clear HO_8; clear HO_9; clear BK473; clear HB; clear HO_7; have HO_8 := n0_; have HO_9 := n1_; have BK473 := n2_; have HB := n3_; have HO494 := n4_; clear n0_ n1_ n2_ n3_ n4_; clear ho hb hg hat)))
     go_roundg k2
     case measure => have := HK1.out; have := HK2.out; omega
     case rel => exact ⟨(x1_2), (y492), (by first | rfl | (simp; done) | (simp [*]; done)), H', ⟨by have := HK1.out; have := HK2.out; omega⟩, ⟨by (with_reducible repeat (first | apply Kd.R_alloc | apply Kd.R_drewN | apply Kd.R_drew)); exact Kd.R_mono HO494.out (fun _ hk => hk.1)⟩, ⟨by (with_reducible repeat (first | apply Kd.R_alloc | apply Kd.R_drewN | apply Kd.R_drew)); exact Kd.R_mono HO_8.out (fun _ hk => hk.2)⟩, ⟨by (with_reducible repeat (first | refine blk_drewN ?_ _ | refine blk_drew ?_ | refine blk_alloc ?_ _)); exact BK473.out⟩, ⟨below_up HB.out⟩⟩

/-! ### spec_DrawIsWay: function 58 -/
def spec_DrawIsWay.j0 : Nat → List Int → Bool → Int → Int → List Int → List Int → Int → Int → Option (Int × Int × List Int × List Int)
 | 0, _, _, _, _, _, _, _, _ => none
 | k + 1, x7, x27, x504000, x504001, x504002, x511000, x511001, x511002 => if x27 = true then ((spec_l1Below.f x511000 x511001 x511002 (x7.length : Int)).bind fun bt514 => ((spec_l1Below.f x511000 bt514.2.1 bt514.2.2 30).bind fun bt517 => (if 0 ≤ bt514.1 then (if bt514.1 < (x7.length : Int) then (some (x504000, x504001, x504002, (x7.set (bt514.1 : Int).toNat bt517.1))) else (none)) else (none)))) else (some (x504000, x504001, x504002, x7))
def spec_DrawIsWay.f (k : Nat) (l0 : List Int) : Option (Int × Int × List Int × List Int) := (spec_DrawApart.f k l0).bind fun bt496 => ((spec_WayTo.f k bt496.1 bt496.2.1 bt496.2.2.1 bt496.2.2.2.1 bt496.2.2.2.2).bind fun t504 => ((spec_l1New.f k l0).bind fun bt507 => (if (t504.length : Int) > 0 then ((spec_l1Once.f bt507.1 bt507.2.1 bt507.2.2 3).bind fun bt511 => (spec_DrawIsWay.j0 k t504 bt511.1 bt496.1 bt496.2.1 bt496.2.2.1 bt507.1 bt511.2.1 bt511.2.2)) else (spec_DrawIsWay.j0 k t504 false bt496.1 bt496.2.1 bt496.2.2.1 bt507.1 bt507.2.1 bt507.2.2))))
theorem spec_DrawIsWay.mono_l : ∀ k, (∀ y0 y1 y2 y3 y4 y5 y6 y7, LeO (spec_DrawIsWay.j0 k y0 y1 y2 y3 y4 y5 y6 y7) (spec_DrawIsWay.j0 (k + 1) y0 y1 y2 y3 y4 y5 y6 y7))
 | 0 => fun _ _ _ _ _ _ _ _ r h => by simp [spec_DrawIsWay.j0] at h
 | k + 1 => by
  have ih0 := spec_DrawIsWay.mono_l k
  · intro y0 y1 y2 y3 y4 y5 y6 y7
    unfold spec_DrawIsWay.j0
    repeat' first
    | (with_reducible exact ih0 _ _ _ _ _ _ _ _)
    | (with_reducible exact spec_DrawApart.mono _ _)
    | (with_reducible exact spec_WayTo.mono _ _ _ _ _ _)
    | (with_reducible exact spec_l1New.mono _ _)
    | (with_reducible exact LeO.refl _)
    | (with_reducible exact LeO.none _)
    | (with_reducible refine LeO.ite ?_ ?_)
    | (with_reducible refine LeO.bind ?_ (fun _ => ?_))
    | exact ih0 _ _ _ _ _ _ _ _
    | exact spec_DrawApart.mono _ _
    | exact spec_WayTo.mono _ _ _ _ _ _
    | exact spec_l1New.mono _ _
    | exact LeO.none _
    | refine LeO.ite ?_ ?_
    | refine LeO.bind ?_ (fun _ => ?_)
theorem spec_DrawIsWay.mono : ∀ a0 k, LeO (spec_DrawIsWay.f k a0) (spec_DrawIsWay.f (k + 1) a0) := by
 intro a0 k
 have ih0 := spec_DrawIsWay.mono_l k
 unfold spec_DrawIsWay.f
 repeat' first
  | (with_reducible exact ih0 _ _ _ _ _ _ _ _)
  | (with_reducible exact spec_DrawApart.mono _ _)
  | (with_reducible exact spec_WayTo.mono _ _ _ _ _ _)
  | (with_reducible exact spec_l1New.mono _ _)
  | (with_reducible exact LeO.refl _)
  | (with_reducible exact LeO.none _)
  | (with_reducible refine LeO.ite ?_ ?_)
  | (with_reducible refine LeO.bind ?_ (fun _ => ?_))
  | exact ih0 _ _ _ _ _ _ _ _
  | exact spec_DrawApart.mono _ _
  | exact spec_WayTo.mono _ _ _ _ _ _
  | exact spec_l1New.mono _ _
  | exact LeO.none _
  | refine LeO.ite ?_ ?_
  | refine LeO.bind ?_ (fun _ => ?_)
set_option maxHeartbeats 8000000 in
set_option maxRecDepth 100000 in
theorem spec_DrawIsWay.calls (k : Nat) (A0 : Option Addr) (c0 : Nat) (l0 : List Int) (r1 : Int) (r2 : Int) (r3 : List Int) (r4 : List Int) (w : World) (hr0 : Kd.C (Kd.int .u8) w A0 l0.length l0) (hc0 : l0.length ≤ c0) (h : spec_DrawIsWay.f k l0 = some (r1, r2, r3, r4)) :
 Calls Try.prog 58 #[.slice A0 l0.length c0] w fun e w' => ∃ v2_ v3_ : Value, e = .returned (.tuple #[.agg #[.int .i64 r1, .int .i64 r2, v2_], v3_]) ∧ Kd.Q (Kd.int .i64) 3 w' w.heap.size (fun k_ => some k_ ≠ (v3_ : Value).ownBlock) v2_ r3 ∧ Kd.R (Kd.int .i64) 3 w' w.heap.size (fun k_ => some k_ ≠ (v2_ : Value).ownBlock) v3_ r4 ∧ Below w.heap.size w w' := by
 have hu43 := Try.underlying43
 have HR0 := Aside0.mk hr0
 have HC0 := Aside0.mk hc0
 clear hr0 hc0
 have HB := Aside0.mk (Below.refl w.heap.size w)
 have H : ((spec_DrawApart.f k l0).bind fun bt496 => ((spec_WayTo.f k bt496.1 bt496.2.1 bt496.2.2.1 bt496.2.2.2.1 bt496.2.2.2.2).bind fun t504 => ((spec_l1New.f k l0).bind fun bt507 => (if (t504.length : Int) > 0 then ((spec_l1Once.f bt507.1 bt507.2.1 bt507.2.2 3).bind fun bt511 => (spec_DrawIsWay.j0 k t504 bt511.1 bt496.1 bt496.2.1 bt496.2.2.1 bt507.1 bt511.2.1 bt511.2.2)) else (spec_DrawIsWay.j0 k t504 false bt496.1 bt496.2.1 bt496.2.2.1 bt507.1 bt507.2.1 bt507.2.2))))) = some (r1, r2, r3, r4) := h
 clear h
 replace H := Option.bind_eq_some_iff.mp H
 obtain ⟨⟨t496, t497, t498, t501, t502⟩, A20, H⟩ := H
 dsimp only at H
 have A2 := Aside0.mk A20
 clear A20
 replace H := Option.bind_eq_some_iff.mp H
 obtain ⟨t504, A30, H⟩ := H
 have A3 := Aside0.mk A30
 clear A30
 replace H := Option.bind_eq_some_iff.mp H
 obtain ⟨⟨t507, t508, t509⟩, A40, H⟩ := H
 dsimp only at H
 have A4 := Aside0.mk A40
 clear A40
 have HC5 := Aside0.mk H
 clear H
 go_enter Try.func58, Try.ntmps58
 go_upto_region 4 with (first | ((with_reducible refine gate_dst (N := 2) rfl ?_); refine box_event ?hg (N := 2) ?hd (cs := #[.int .i64 0, .int .i64 0, .slice none 0 0]) (t := 43) ?hr ?_; (case hd => rfl); (case hg => rfl); (case hr => first | (go_simp; done) | (go_simp; rfl)); intro gb495 hg w6 hbox hb; have n0_ := Aside0.mk (below_step (below_up HB.out) hb); have n1_ := Aside0.mk (hbox); have n2_ := Aside0.mk (szle hg HB.out); have n3_ := Aside0.mk (szle hg HB.out); replace HB := n0_; have BK495 := n1_; have GW495 := n2_; have GE495 := n3_; clear n0_ n1_ n2_ n3_; clear hb hbox hg) | ((with_reducible refine gate_callee (f := 76) rfl ?_); refine goesL_ (some 11) rfl rfl Try.func76 (by kernel_rfl) rfl #[.slice A0 l0.length c0] rfl (by (try simp only [List.map_toArray, List.map_cons, List.map_nil]); first | done | rfl | (simp only [List.length_drop, List.length_take]; rfl)) ?_; (with_reducible refine (spec_DrawApart.calls k _ _ l0 t496 t497 t498 t501 t502 _ ?side1 ?side2 A2.out).mono ?_); (case side1 => exact (Kd.C_below HR0.out (below_up HB.out))); (case side2 => exact HC0.out); rintro e w7 ⟨v499, rfl, ho0, hb⟩; refine ⟨_, rfl, ?_⟩; have n0_ := Aside0.mk (Kd.Q_lower ho0 (below_size (by repeat (first | (with_reducible first | exact HB.out | apply below_alloc | apply pw_below_drewN | apply below_drew1 | refine below_set ?_ GE495.out) | exact HB.out)))); have n1_ := Aside0.mk (blk_below (blk_up BK495.out) hb); have n2_ := Aside0.mk (below_step (by repeat (first | (with_reducible first | exact HB.out | apply below_alloc | apply pw_below_drewN | apply below_drew1 | refine below_set ?_ GE495.out) | exact HB.out)) hb); have HO500 := n0_; replace BK495 := n1_; replace HB := n2_; clear n0_ n1_ n2_; (try clear hb); (try clear hb2); (try clear hk); (try clear hi); (try clear ho0)) | ((with_reducible refine gate_dst (N := 4) rfl ?_); refine box_event ?hg (N := 4) ?hd (cs := #[.int .i64 0, .int .i64 0, .slice none 0 0]) (t := 43) ?hr ?_; (case hd => rfl); (case hg => rfl); (case hr => first | (go_simp; done) | (go_simp; rfl)); intro gb503 hg w8 hbox hb; have n0_ := Aside0.mk (Kd.Q_below (Kd.Q_up HO500.out) hb); have n1_ := Aside0.mk (blk_below (blk_up BK495.out) hb); have n2_ := Aside0.mk (below_step (by repeat (first | (with_reducible first | exact HB.out | apply below_alloc | apply pw_below_drewN | apply below_drew1 | refine below_set ?_ GE495.out) | exact HB.out)) hb); have n3_ := Aside0.mk (hbox); have n4_ := Aside0.mk ((by rw [hg]; exact (below_size (by repeat (first | (with_reducible first | exact HB.out | apply below_alloc | apply pw_below_drewN | apply below_drew1 | refine below_set ?_ GE495.out) | exact HB.out))) : w.heap.size ≤ gb503)); have n5_ := Aside0.mk ((by rw [hg]; exact (below_size (by repeat (first | (with_reducible first | exact HB.out | apply below_alloc | apply pw_below_drewN | apply below_drew1 | refine below_set ?_ GE495.out) | exact HB.out))) : w.heap.size ≤ gb503)); have n6_ := Aside0.mk ((by rw [hg]; exact Nat.ne_of_lt (blk_lt (g := gb495) (o := .cells #[.int .i64 0, .int .i64 0, .slice none 0 0] 43 (0, 0)) (by (with_reducible repeat (first | refine blk_drewN ?_ _ | refine blk_drew ?_ | refine blk_alloc ?_ _)); exact BK495.out)) : gb495 ≠ gb503)); have n7_ := Aside0.mk ((by rw [hg]; exact Nat.ne_of_gt (blk_lt (g := gb495) (o := .cells #[.int .i64 0, .int .i64 0, .slice none 0 0] 43 (0, 0)) (by (with_reducible repeat (first | refine blk_drewN ?_ _ | refine blk_drew ?_ | refine blk_alloc ?_ _)); exact BK495.out)) : gb503 ≠ gb495)); replace HO500 := n0_; replace BK495 := n1_; replace HB := n2_; have BK503 := n3_; have GW503 := n4_; have GE503 := n5_; have NB495_503 := n6_; have NB503_495 := n7_; clear n0_ n1_ n2_ n3_ n4_ n5_ n6_ n7_; clear hb hbox hg; have hnb9 := NB503_495.out; have hnc9 := NB495_503.out; obtain ⟨hcz10_0, hcz10_1, hcz10_2⟩ := cells3_ BK503.out; obtain ⟨hfz10_0, hfz10_1, hfz10_2⟩ := frz3_ BK503.out; obtain ⟨Ao11, co11, eo11, _⟩ := Kd.Q_slice HO500.out; subst eo11) | ((with_reducible refine gate_callee (f := 77) rfl ?_); refine goesL_ (some 18) rfl rfl Try.func77 (by kernel_rfl) rfl #[.agg #[.int .i64 t496, .int .i64 t497, .slice Ao11 t498.length co11], .int .i64 t501, .int .i64 t502] rfl (by (try simp only [List.map_toArray, List.map_cons, List.map_nil]); first | done | rfl | (simp only [List.length_drop, List.length_take]; rfl)) ?_; (with_reducible refine (spec_WayTo.calls k t496 t497 _ _ t498 t501 t502 t504 _ ?side1 ?side2 A3.out).mono ?_); (case side1 => refine (Kd.Q_reads' (e := 3) (base := w.heap.size) (ok := fun k_ => True) (n := t498.length) (c := co11) ?_).2.2; exact (by (with_reducible repeat (first | apply Kd.Q_alloc | apply Kd.Q_drewN | apply Kd.Q_drew)); exact (Kd.Q_mono (Kd.Q_far (p := ⟨gb503, 2, none⟩) (Kd.Q_far (p := ⟨gb503, 1, none⟩) (Kd.Q_far (p := ⟨gb503, 0, none⟩) (Kd.Q_types HO500.out BK503.out (by decide)) (fun _ hk => hk.2) (.int .i64 t496)) (fun _ hk => hk.2) (.int .i64 t497)) (fun _ hk => hk.2) (.slice Ao11 t498.length co11)) (fun _ h_ => h_.1)))); (case side2 => exact (Kd.Q_reads' HO500.out).2.1); rintro e w12 ⟨v505, rfl, ho0, hb⟩; refine ⟨_, rfl, ?_⟩; have n0_ := Aside0.mk (Kd.Q_elder' (by (with_reducible repeat (first | apply Kd.Q_alloc | apply Kd.Q_drewN | apply Kd.Q_drew)); exact (Kd.Q_mono (Kd.Q_far (p := ⟨gb503, 2, none⟩) (Kd.Q_far (p := ⟨gb503, 1, none⟩) (Kd.Q_far (p := ⟨gb503, 0, none⟩) (Kd.Q_types HO500.out BK503.out (by decide)) (fun _ hk => hk.2) (.int .i64 t496)) (fun _ hk => hk.2) (.int .i64 t497)) (fun _ hk => hk.2) (.slice Ao11 t498.length co11)) (fun _ h_ => h_.1))) (Kd.R_base ho0) hb); have n1_ := Aside0.mk (Kd.R_lower (Kd.R_new' ho0 (Kd.Q_lt (by (with_reducible repeat (first | apply Kd.Q_alloc | apply Kd.Q_drewN | apply Kd.Q_drew)); exact (Kd.Q_mono (Kd.Q_far (p := ⟨gb503, 2, none⟩) (Kd.Q_far (p := ⟨gb503, 1, none⟩) (Kd.Q_far (p := ⟨gb503, 0, none⟩) (Kd.Q_types HO500.out BK503.out (by decide)) (fun _ hk => hk.2) (.int .i64 t496)) (fun _ hk => hk.2) (.int .i64 t497)) (fun _ hk => hk.2) (.slice Ao11 t498.length co11)) (fun _ h_ => h_.1))))) (below_size (by repeat (first | (with_reducible first | exact HB.out | apply below_alloc | apply pw_below_drewN | apply below_drew1 | refine below_set ?_ GE495.out | refine below_set ?_ GE503.out) | exact HB.out)))); have n2_ := Aside0.mk (blk_below (g := gb495) (o := .cells #[.int .i64 0, .int .i64 0, .slice none 0 0] 43 (0, 0)) (by (with_reducible repeat (first | refine blk_drewN ?_ _ | refine blk_drew ?_ | refine blk_alloc ?_ _)); refine blk_far ?_ NB495_503.out _; (with_reducible repeat (first | refine blk_drewN ?_ _ | refine blk_drew ?_ | refine blk_alloc ?_ _)); refine blk_far ?_ NB495_503.out _; (with_reducible repeat (first | refine blk_drewN ?_ _ | refine blk_drew ?_ | refine blk_alloc ?_ _)); refine blk_far ?_ NB495_503.out _; (with_reducible repeat (first | refine blk_drewN ?_ _ | refine blk_drew ?_ | refine blk_alloc ?_ _)); exact BK495.out) hb); have n3_ := Aside0.mk (blk_below (g := gb503) (o := .cells #[.int .i64 t496, .int .i64 t497, .slice Ao11 t498.length co11] 43 (0, 0)) (by (with_reducible repeat (first | refine blk_drewN ?_ _ | refine blk_drew ?_ | refine blk_alloc ?_ _)); refine blk_put (cs := #[.int .i64 t496, .int .i64 t497, .slice none 0 0]) ?_ 2 _ rfl; (with_reducible repeat (first | refine blk_drewN ?_ _ | refine blk_drew ?_ | refine blk_alloc ?_ _)); refine blk_put (cs := #[.int .i64 t496, .int .i64 0, .slice none 0 0]) ?_ 1 _ rfl; (with_reducible repeat (first | refine blk_drewN ?_ _ | refine blk_drew ?_ | refine blk_alloc ?_ _)); refine blk_put (cs := #[.int .i64 0, .int .i64 0, .slice none 0 0]) ?_ 0 _ rfl; (with_reducible repeat (first | refine blk_drewN ?_ _ | refine blk_drew ?_ | refine blk_alloc ?_ _)); exact BK503.out) hb); have n4_ := Aside0.mk (below_step (by repeat (first | (with_reducible first | exact HB.out | apply below_alloc | apply pw_below_drewN | apply below_drew1 | refine below_set ?_ GE495.out | refine below_set ?_ GE503.out) | exact HB.out)) hb); replace HO500 := n0_; have HO506 := n1_; replace BK495 := n2_; replace BK503 := n3_; replace HB := n4_; clear n0_ n1_ n2_ n3_ n4_; (try clear hb); (try clear hb2); (try clear hk); (try clear hi); (try clear ho0)) | ((with_reducible refine gate_callee (f := 51) rfl ?_); refine goesL_ (some 20) rfl rfl Try.func51 (by kernel_rfl) rfl #[.slice A0 l0.length c0] rfl (by (try simp only [List.map_toArray, List.map_cons, List.map_nil]); first | done | rfl | (simp only [List.length_drop, List.length_take]; rfl)) ?_; (with_reducible refine (spec_l1New.calls k _ _ l0 t507 t508 t509 w _ ?side1 ?side2 ?side3 A4.out).mono ?_); (case side1 => repeat (first | (with_reducible first | exact HB.out | apply below_alloc | apply pw_below_drewN | apply below_drew1 | refine below_set ?_ GE495.out | refine below_set ?_ GE503.out) | exact HB.out)); (case side2 => exact HR0.out); (case side3 => exact HC0.out); rintro e w13 ⟨g510, rfl, hi, hb, hb2⟩; refine ⟨_, rfl, ?_⟩; have n0_ := Aside0.mk (Kd.Q_below (Kd.Q_up HO500.out) hb2); have n1_ := Aside0.mk (Kd.R_below (Kd.R_up HO506.out) hb2); have n2_ := Aside0.mk (blk_below (blk_up BK495.out) hb2); have n3_ := Aside0.mk (blk_below (blk_up BK503.out) hb2); have n4_ := Aside0.mk (hb); have n5_ := Aside0.mk (hi); have n6_ := Aside0.mk (IsS93.ne_blk hi (blk_below (blk_up BK495.out) hb2) (by decide)); have n7_ := Aside0.mk (Ne.symm (IsS93.ne_blk hi (blk_below (blk_up BK495.out) hb2) (by decide))); have n8_ := Aside0.mk (IsS93.ne_blk hi (blk_below (blk_up BK503.out) hb2) (by decide)); have n9_ := Aside0.mk (Ne.symm (IsS93.ne_blk hi (blk_below (blk_up BK503.out) hb2) (by decide))); replace HO500 := n0_; replace HO506 := n1_; replace BK495 := n2_; replace BK503 := n3_; replace HB := n4_; have HI510 := n5_; have NB510_495 := n6_; have NB495_510 := n7_; have NB510_503 := n8_; have NB503_510 := n9_; clear n0_ n1_ n2_ n3_ n4_ n5_ n6_ n7_ n8_ n9_; (try clear hb); (try clear hb2); (try clear hk); (try clear hi)))
 (try simp only [Act.put, List.setIfInBounds_toArray, List.set_cons_zero, List.set_cons_succ])
 go_cut [27] (fun v27 wc => ∃ (kq : Nat) (x27_4 : Bool) (x511001_4 : Int) (x511002_4 : Int), v27 = .bool x27_4 ∧ Aside0 (spec_DrawIsWay.j0 kq t504 x27_4 t496 t497 t498 t507 x511001_4 x511002_4 = some (r1, r2, r3, r4)) ∧ Aside0 (kq ≤ k) ∧ Aside0 (Kd.R (Kd.int .i64) 3 wc w.heap.size (fun k_ => some k_ ≠ ((.slice Ao11 t498.length co11) : Value).ownBlock) v505 t504) ∧ Aside0 (Kd.Q (Kd.int .i64) 3 wc w.heap.size (fun k_ => some k_ ≠ (v505 : Value).ownBlock) (.slice Ao11 t498.length co11) t498) ∧ Aside0 (wc.heap[gb495]? = some (.cells #[.int .i64 0, .int .i64 0, (.slice none 0 0)] 43 (0, 0))) ∧ Aside0 (wc.heap[gb503]? = some (.cells #[.int .i64 t496, .int .i64 t497, (.slice Ao11 t498.length co11)] 43 (0, 0))) ∧ Aside0 (IsS93 w wc g510 t507 x511001_4 x511002_4) ∧ Aside0 (Below w.heap.size w wc))
 case first =>
  have H := HC5.out
  clear HC5
  by_cases c14 : (t504.length : Int) > 0
  rotate_left
  · rw [if_neg c14] at H
    have c14b0 : decide (0 < (t504.length : Int)) = false := decide_eq_false c14
    have c14b1 : decide (0 < t504.length) = false := decide_eq_false (by omega)
    clear c14
    (first | rw [c14b0] | (simp only [i64_w, i32_w]; rw [c14b0]) | skip)
    have H' := Aside0.mk H
    clear H
    obtain ⟨Ao18, co18, eo18⟩ := Kd.R_slice HO506.out
    subst eo18
    go_wp2
    go_meet
    case rel => exact ⟨_, (false), (t508), (t509), (by first | rfl | (simp; done) | (simp [*]; done)), H', ⟨by first | omega | exact Nat.le_refl _⟩, ⟨by (with_reducible repeat (first | apply Kd.R_alloc | apply Kd.R_drewN | apply Kd.R_drew)); exact Kd.R_mono HO506.out (fun _ hk => hk.2)⟩, ⟨by (with_reducible repeat (first | apply Kd.Q_alloc | apply Kd.Q_drewN | apply Kd.Q_drew)); exact Kd.Q_mono HO500.out (fun _ hk => hk.2)⟩, ⟨by (with_reducible repeat (first | refine blk_drewN ?_ _ | refine blk_drew ?_ | refine blk_alloc ?_ _)); exact BK495.out⟩, ⟨by (with_reducible repeat (first | refine blk_drewN ?_ _ | refine blk_drew ?_ | refine blk_alloc ?_ _)); exact BK503.out⟩, ⟨by repeat (first | (with_reducible first | exact HI510.out | apply IsS93.alloc | apply IsS93.drewN | apply IsS93.drew | apply IsS93.set_1 | apply IsS93.set_2 | refine IsS93.far ?_ NB510_495.out _ | refine IsS93.far ?_ NB510_503.out _) | exact HI510.out)⟩, ⟨below_up HB.out⟩⟩
  rw [if_pos c14] at H
  have c14b0 : decide (0 < (t504.length : Int)) = true := decide_eq_true c14
  have c14b1 : decide (0 < t504.length) = true := decide_eq_true (by omega)
  clear c14
  (first | rw [c14b0] | (simp only [i64_w, i32_w]; rw [c14b0]) | skip)
  replace H := Option.bind_eq_some_iff.mp H
  obtain ⟨⟨t511, t512, t513⟩, A150, H⟩ := H
  dsimp only at H
  have A15 := Aside0.mk A150
  clear A150
  have H' := Aside0.mk H
  clear H
  obtain ⟨Ao16, co16, eo16⟩ := Kd.R_slice HO506.out
  subst eo16
  go_wp2_with (first | (go_at_call 52; (with_reducible refine (spec_l1Once.calls g510 t507 t508 t509 3 t511 t512 t513 w _ ?side1 ?side2 A15.out).mono ?_); (case side1 => repeat (first | (with_reducible first | exact HI510.out | apply IsS93.alloc | apply IsS93.drewN | apply IsS93.drew | apply IsS93.set_1 | apply IsS93.set_2 | refine IsS93.far ?_ NB510_495.out _ | refine IsS93.far ?_ NB510_503.out _) | exact HI510.out)); (case side2 => repeat (first | (with_reducible first | exact HB.out | apply below_alloc | apply pw_below_drewN | apply below_drew1 | refine below_set ?_ (IsS93.ge HI510.out) | refine below_set ?_ GE495.out | refine below_set ?_ GE503.out) | exact HB.out)); rintro e w17 ⟨rfl, hi, hb, hk⟩; have n0_ := Aside0.mk (KeepBut.blk hk (g' := gb495) (o := .cells #[.int .i64 0, .int .i64 0, .slice none 0 0] 43 (0, 0)) (blk_up BK495.out) NB495_510.out (by simp)); have n1_ := Aside0.mk (Kd.Q_mono (Kd.Q_keep (IsS93.apartQ (show IsS93 w _ g510 t507 t508 t509 from by repeat (first | (with_reducible first | exact HI510.out | apply IsS93.alloc | apply IsS93.drewN | apply IsS93.drew | apply IsS93.set_1 | apply IsS93.set_2 | refine IsS93.far ?_ NB510_495.out _ | refine IsS93.far ?_ NB510_503.out _) | exact HI510.out)) (Kd.Q_up HO500.out) (by decide)) hk (fun _ h => h.2)) (fun _ h => h.1)); have n2_ := Aside0.mk (KeepBut.blk hk (g' := gb503) (o := .cells #[.int .i64 t496, .int .i64 t497, .slice Ao11 t498.length co11] 43 (0, 0)) (blk_up BK503.out) NB503_510.out (by simp)); have n3_ := Aside0.mk (Kd.R_mono (Kd.R_keep (IsS93.apart (show IsS93 w _ g510 t507 t508 t509 from by repeat (first | (with_reducible first | exact HI510.out | apply IsS93.alloc | apply IsS93.drewN | apply IsS93.drew | apply IsS93.set_1 | apply IsS93.set_2 | refine IsS93.far ?_ NB510_495.out _ | refine IsS93.far ?_ NB510_503.out _) | exact HI510.out)) (Kd.R_up HO506.out) (by decide)) hk (fun _ h => h.2)) (fun _ h => h.1)); have n4_ := Aside0.mk (hb); have n5_ := Aside0.mk (hi); replace BK495 := n0_; replace HO500 := n1_; replace BK503 := n2_; replace HO506 := n3_; replace HB := n4_; replace HI510 := n5_; clear n0_ n1_ n2_ n3_ n4_ n5_; (try clear hb); (try clear hb2); (try clear hk); (try clear hi)))
  go_meet
  case rel => exact ⟨_, (t511), (t512), (t513), (by first | rfl | (simp; done) | (simp [*]; done)), H', ⟨by first | omega | exact Nat.le_refl _⟩, ⟨by (with_reducible repeat (first | apply Kd.R_alloc | apply Kd.R_drewN | apply Kd.R_drew)); exact Kd.R_mono HO506.out (fun _ hk => hk.2)⟩, ⟨by (with_reducible repeat (first | apply Kd.Q_alloc | apply Kd.Q_drewN | apply Kd.Q_drew)); exact Kd.Q_mono HO500.out (fun _ hk => hk.2)⟩, ⟨by (with_reducible repeat (first | refine blk_drewN ?_ _ | refine blk_drew ?_ | refine blk_alloc ?_ _)); exact BK495.out⟩, ⟨by (with_reducible repeat (first | refine blk_drewN ?_ _ | refine blk_drew ?_ | refine blk_alloc ?_ _)); exact BK503.out⟩, ⟨by repeat (first | (with_reducible first | exact HI510.out | apply IsS93.alloc | apply IsS93.drewN | apply IsS93.drew | apply IsS93.set_1 | apply IsS93.set_2 | refine IsS93.far ?_ NB510_495.out _ | refine IsS93.far ?_ NB510_503.out _) | exact HI510.out)⟩, ⟨below_up HB.out⟩⟩
 case rest =>
  clear HC5
  try clear c1
  try clear p2
  try clear c5
  try clear c7
  try clear c9
  try clear c14
  try clear c14b0
  try clear c14b1
  try clear hcz10_0
  try clear hcz10_1
  try clear hcz10_2
  try clear hfz10_0
  try clear hfz10_1
  try clear hfz10_2
  obtain ⟨kq, x27_4, x511001_4, x511002_4, rfl, HA, HJ4, HO_7, HO_504002, BK495, BK503, HI510, HB⟩ := hcut
  cases kq with
  | zero => exact absurd HA.out (by simp [spec_DrawIsWay.j0])
  | succ kj4 =>
   have H := HA.out
   clear HA
   simp only [spec_DrawIsWay.j0] at H
   by_cases c19 : x27_4 = true
   rotate_left
   · replace c19 := Bool.eq_false_iff.mpr c19
     subst c19
     rw [if_neg (show ¬ (false = true) by decide)] at H
     simp only [Option.some.injEq, Prod.mk.injEq] at H
     obtain ⟨rfl, rfl, rfl, rfl⟩ := H
     have hnb35 := NB503_495.out
     have hnc35 := NB495_503.out
     have hnb36 := NB503_510.out
     have hnc36 := NB510_503.out
     obtain ⟨hcz37_0, hcz37_1, hcz37_2⟩ := cells3_ BK503.out
     obtain ⟨hfz37_0, hfz37_1, hfz37_2⟩ := frz3_ BK503.out
     have hnb38 := NB495_510.out
     have hnc38 := NB510_495.out
     obtain ⟨hcz39_0, hcz39_1, hcz39_2⟩ := cells3_ BK495.out
     obtain ⟨hfz39_0, hfz39_1, hfz39_2⟩ := frz3_ BK495.out
     go_wp2
     refine bodyPost_ret (results_ct rfl _ _ gb495 43 #[.int .i64 t496, .int .i64 t497, .slice Ao11 t498.length co11] (0, 0) _ rfl (by (with_reducible repeat (first | refine blk_drewN ?_ _ | refine blk_drew ?_ | refine blk_alloc ?_ _)); refine blk_put (cs := #[.int .i64 t496, .int .i64 t497, .slice none 0 0]) ?_ 2 _ rfl; (with_reducible repeat (first | refine blk_drewN ?_ _ | refine blk_drew ?_ | refine blk_alloc ?_ _)); refine blk_put (cs := #[.int .i64 t496, .int .i64 0, .slice none 0 0]) ?_ 1 _ rfl; (with_reducible repeat (first | refine blk_drewN ?_ _ | refine blk_drew ?_ | refine blk_alloc ?_ _)); refine blk_put (cs := #[.int .i64 0, .int .i64 0, .slice none 0 0]) ?_ 0 _ rfl; (with_reducible repeat (first | refine blk_drewN ?_ _ | refine blk_drew ?_ | refine blk_alloc ?_ _)); exact BK495.out) Try.underlying43 rfl (by kernel_rfl)) rfl ?_
     exact ⟨_, _, by first | rfl | (simp [errW_none, errW_some] <;> rfl) | (simp [*, errW_none, errW_some] <;> rfl), by (with_reducible repeat (first | apply Kd.Q_alloc | apply Kd.Q_drewN | apply Kd.Q_drew)); exact Kd.Q_mono (Kd.Q_far (p := ⟨gb495, 2, none⟩) (Kd.Q_far (p := ⟨gb495, 1, none⟩) (Kd.Q_far (p := ⟨gb495, 0, none⟩) (Kd.Q_types HO_504002.out BK495.out (by decide)) (fun _ hk => hk.2) (.int .i64 t496)) (fun _ hk => hk.2) (.int .i64 t497)) (fun _ hk => hk.2) (.slice Ao11 t498.length co11)) (fun _ hk => hk.1), by (with_reducible repeat (first | apply Kd.R_alloc | apply Kd.R_drewN | apply Kd.R_drew)); exact Kd.R_mono (Kd.R_far (p := ⟨gb495, 2, none⟩) (Kd.R_far (p := ⟨gb495, 1, none⟩) (Kd.R_far (p := ⟨gb495, 0, none⟩) (Kd.R_types HO_7.out BK495.out (by decide)) (fun _ hk => hk.2) (.int .i64 t496)) (fun _ hk => hk.2) (.int .i64 t497)) (fun _ hk => hk.2) (.slice Ao11 t498.length co11)) (fun _ hk => hk.1), by repeat (first | (with_reducible first | exact HB.out | apply below_alloc | apply pw_below_drewN | apply below_drew1 | refine below_set ?_ (IsS93.ge HI510.out) | refine below_set ?_ GE495.out | refine below_set ?_ GE503.out) | exact HB.out)⟩
   subst c19
   rw [if_pos rfl] at H
   replace H := Option.bind_eq_some_iff.mp H
   obtain ⟨⟨t514, t515, t516⟩, A200, H⟩ := H
   dsimp only at H
   have A20 := Aside0.mk A200
   clear A200
   replace H := Option.bind_eq_some_iff.mp H
   obtain ⟨⟨t517, t518, t519⟩, A210, H⟩ := H
   dsimp only at H
   have A21 := Aside0.mk A210
   clear A210
   by_cases c22 : 0 ≤ t514
   rotate_left
   · rw [if_neg c22] at H
     exact absurd H (by simp)
   rw [if_pos c22] at H
   have c22b0 : decide (0 ≤ t514) = true := decide_eq_true c22
   clear c22
   by_cases c23 : t514 < (t504.length : Int)
   rotate_left
   · rw [if_neg c23] at H
     exact absurd H (by simp)
   rw [if_pos c23] at H
   have c23b0 : decide (t514 < (t504.length : Int)) = true := decide_eq_true c23
   clear c23
   obtain ⟨y520, hy520⟩ : ∃ y_ : List Int, y_ = (t504.set (t514 : Int).toNat t517) := ⟨_, rfl⟩
   replace H : (some (t496, t497, t498, y520)) = some (r1, r2, r3, r4) := by first | (rw [hy520]; with_reducible exact H) | (have H2_ := (Option.bind_some _ _).symm.trans H; rw [hy520]; with_reducible exact H2_) | (have H2_ := (Option.bind_some _ _).symm.trans H; with_reducible exact H2_) | with_reducible exact H | (rw [hy520]; exact H) | exact H
   have Ny520 := Aside0.mk hy520
   clear hy520
   simp only [Option.some.injEq, Prod.mk.injEq] at H
   obtain ⟨rfl, rfl, rfl, rfl⟩ := H
   obtain ⟨Ao25, co25, eo25⟩ := Kd.R_slice HO_7.out
   subst eo25
   go_wp2_with (first | ((with_reducible refine gate_callee (f := 70) rfl ?_); refine goesL_ (some 32) rfl rfl Try.func70 (by kernel_rfl) rfl #[.pointer (some ⟨g510, 0, none⟩), .int .i64 (t504.length : Int)] rfl (by (try simp only [List.map_toArray, List.map_cons, List.map_nil]); first | done | rfl | (simp only [List.length_drop, List.length_take]; rfl)) ?_; (with_reducible refine (spec_l1Below.calls g510 t507 x511001_4 x511002_4 (t504.length : Int) t514 t515 t516 w _ ?side1 ?side2 A20.out).mono ?_); (case side1 => repeat (first | (with_reducible first | exact HI510.out | apply IsS93.alloc | apply IsS93.drewN | apply IsS93.drew | apply IsS93.set_1 | apply IsS93.set_2 | refine IsS93.far ?_ NB510_495.out _ | refine IsS93.far ?_ NB510_503.out _) | exact HI510.out)); (case side2 => repeat (first | (with_reducible first | exact HB.out | apply below_alloc | apply pw_below_drewN | apply below_drew1 | refine below_set ?_ (IsS93.ge HI510.out) | refine below_set ?_ GE495.out | refine below_set ?_ GE503.out) | exact HB.out)); rintro e w26 ⟨rfl, hi, hb, hk⟩; refine ⟨_, rfl, ?_⟩; have n0_ := Aside0.mk (Kd.R_mono (Kd.R_keep (IsS93.apart (show IsS93 w _ g510 t507 x511001_4 x511002_4 from by repeat (first | (with_reducible first | exact HI510.out | apply IsS93.alloc | apply IsS93.drewN | apply IsS93.drew | apply IsS93.set_1 | apply IsS93.set_2 | refine IsS93.far ?_ NB510_495.out _ | refine IsS93.far ?_ NB510_503.out _) | exact HI510.out)) (Kd.R_up HO_7.out) (by decide)) hk (fun _ h => h.2)) (fun _ h => h.1)); have n1_ := Aside0.mk (Kd.Q_mono (Kd.Q_keep (IsS93.apartQ (show IsS93 w _ g510 t507 x511001_4 x511002_4 from by repeat (first | (with_reducible first | exact HI510.out | apply IsS93.alloc | apply IsS93.drewN | apply IsS93.drew | apply IsS93.set_1 | apply IsS93.set_2 | refine IsS93.far ?_ NB510_495.out _ | refine IsS93.far ?_ NB510_503.out _) | exact HI510.out)) (Kd.Q_up HO_504002.out) (by decide)) hk (fun _ h => h.2)) (fun _ h => h.1)); have n2_ := Aside0.mk (KeepBut.blk hk (g' := gb495) (o := .cells #[.int .i64 0, .int .i64 0, .slice none 0 0] 43 (0, 0)) (blk_up BK495.out) NB495_510.out (by simp)); have n3_ := Aside0.mk (KeepBut.blk hk (g' := gb503) (o := .cells #[.int .i64 t496, .int .i64 t497, .slice Ao11 t498.length co11] 43 (0, 0)) (blk_up BK503.out) NB503_510.out (by simp)); have n4_ := Aside0.mk (hb); have n5_ := Aside0.mk (hi); replace HO_7 := n0_; replace HO_504002 := n1_; replace BK495 := n2_; replace BK503 := n3_; replace HB := n4_; replace HI510 := n5_; clear n0_ n1_ n2_ n3_ n4_ n5_; (try clear hb); (try clear hb2); (try clear hk); (try clear hi)) | ((with_reducible refine gate_callee (f := 70) rfl ?_); refine goesL_ (some 34) rfl rfl Try.func70 (by kernel_rfl) rfl #[.pointer (some ⟨g510, 0, none⟩), .int .i64 30] rfl (by (try simp only [List.map_toArray, List.map_cons, List.map_nil]); first | done | rfl | (simp only [List.length_drop, List.length_take]; rfl)) ?_; (with_reducible refine (spec_l1Below.calls g510 t507 t515 t516 30 t517 t518 t519 w _ ?side1 ?side2 A21.out).mono ?_); (case side1 => repeat (first | (with_reducible first | exact HI510.out | apply IsS93.alloc | apply IsS93.drewN | apply IsS93.drew | apply IsS93.set_1 | apply IsS93.set_2 | refine IsS93.far ?_ NB510_495.out _ | refine IsS93.far ?_ NB510_503.out _) | exact HI510.out)); (case side2 => repeat (first | (with_reducible first | exact HB.out | apply below_alloc | apply pw_below_drewN | apply below_drew1 | refine below_set ?_ (IsS93.ge HI510.out) | refine below_set ?_ GE495.out | refine below_set ?_ GE503.out) | exact HB.out)); rintro e w27 ⟨rfl, hi, hb, hk⟩; refine ⟨_, rfl, ?_⟩; have n0_ := Aside0.mk (Kd.R_mono (Kd.R_keep (IsS93.apart (show IsS93 w _ g510 t507 t515 t516 from by repeat (first | (with_reducible first | exact HI510.out | apply IsS93.alloc | apply IsS93.drewN | apply IsS93.drew | apply IsS93.set_1 | apply IsS93.set_2 | refine IsS93.far ?_ NB510_495.out _ | refine IsS93.far ?_ NB510_503.out _) | exact HI510.out)) (Kd.R_up HO_7.out) (by decide)) hk (fun _ h => h.2)) (fun _ h => h.1)); have n1_ := Aside0.mk (Kd.Q_mono (Kd.Q_keep (IsS93.apartQ (show IsS93 w _ g510 t507 t515 t516 from by repeat (first | (with_reducible first | exact HI510.out | apply IsS93.alloc | apply IsS93.drewN | apply IsS93.drew | apply IsS93.set_1 | apply IsS93.set_2 | refine IsS93.far ?_ NB510_495.out _ | refine IsS93.far ?_ NB510_503.out _) | exact HI510.out)) (Kd.Q_up HO_504002.out) (by decide)) hk (fun _ h => h.2)) (fun _ h => h.1)); have n2_ := Aside0.mk (KeepBut.blk hk (g' := gb495) (o := .cells #[.int .i64 0, .int .i64 0, .slice none 0 0] 43 (0, 0)) (blk_up BK495.out) NB495_510.out (by simp)); have n3_ := Aside0.mk (KeepBut.blk hk (g' := gb503) (o := .cells #[.int .i64 t496, .int .i64 t497, .slice Ao11 t498.length co11] 43 (0, 0)) (blk_up BK503.out) NB503_510.out (by simp)); have n4_ := Aside0.mk (hb); have n5_ := Aside0.mk (hi); replace HO_7 := n0_; replace HO_504002 := n1_; replace BK495 := n2_; replace BK503 := n3_; replace HB := n4_; replace HI510 := n5_; clear n0_ n1_ n2_ n3_ n4_ n5_; (try clear hb); (try clear hb2); (try clear hk); (try clear hi); have p24 : 0 ≤ (t514 : Int) := of_decide_eq_true (by first | (with_reducible assumption) | assumption); have q24 : (t514 : Int) < ((t504.length : Int) : Int) := of_decide_eq_true (by first | (with_reducible assumption) | assumption); obtain ⟨go24, co24, eo24, gb24, gl24, cl24, HG24⟩ := Kd.R_form HO_7.out (by omega); (first | cases eo24 | (injection eo24 with ea_ en_ ec_; (first | subst ea_ | (injection ea_ with ea_; subst ea_)); subst ec_; clear en_)); have GB24 := Aside0.mk gb24; have GG24 := Aside0.mk HG24; clear gb24 gl24 HG24; obtain ⟨hx24_0, hf24_0⟩ := Kd.R_celln 0 HO_7.out (t514 : Int) p24 q24; replace p24 := eq_true p24; replace q24 := eq_true q24; obtain ⟨hy28_, hz28_⟩ := Kd.R_celln 0 HO_7.out (t514 : Int) (of_decide_eq_true (by first | (with_reducible assumption) | assumption)) (of_decide_eq_true (by first | (with_reducible assumption) | assumption)); have HP28 := Kd.R_putg HO_7.out (t514 : Int) t517) | ((with_reducible refine gate_store (t := 3) (p := 35) rfl ?_); refine store_event (t := 3) (p := 35) (v := ?vo_w29) (w1 := (w27.setCell ⟨go24, (t514 : Int).toNat, none⟩ (.int .i64 t517))) ?hg ?ho ?hn ?hr ?_; (case ho => rfl); (case hg => rfl); (case hn => rfl); (case hr => first | (go_simp; done) | (go_simp; rfl)); intro w29 hw; have hg : w27.grownBy w29 (some go24) := (by rw [hw]; exact HP28.2); have hp_ : Kd.R (Kd.int .i64) 3 w29 w.heap.size (fun k_ => some k_ ≠ (.slice Ao11 t498.length co11 : Value).ownBlock) (.slice (some ⟨go24, 0, none⟩) t504.length co25) y520 := (by rw [hw, Ny520.out]; exact HP28.1); clear HP28; have n0_ := Aside0.mk (hp_); have n1_ := Aside0.mk (Kd.Q_after (v := (.slice (some ⟨go24, 0, none⟩) t504.length co25)) (v1 := (.slice (some ⟨go24, 0, none⟩) t504.length co25)) (ok := (fun _ => True)) (by (with_reducible repeat (first | apply Kd.Q_alloc | apply Kd.Q_drewN | apply Kd.Q_drew)); exact Kd.Q_mono HO_504002.out (fun _ hk => ⟨trivial, hk⟩)) hg (.inl rfl)); have n2_ := Aside0.mk (blk_grown (blk_up BK495.out) hg (Kd.R_ne HO_7.out BK495.out (by decide))); have n3_ := Aside0.mk (blk_grown (blk_up BK503.out) hg (Kd.R_ne HO_7.out BK503.out (by decide))); have n4_ := Aside0.mk (IsS93.grown (by repeat (first | (with_reducible first | exact HI510.out | apply IsS93.alloc | apply IsS93.drewN | apply IsS93.drew | apply IsS93.set_1 | apply IsS93.set_2 | refine IsS93.far ?_ NB510_495.out _ | refine IsS93.far ?_ NB510_503.out _) | exact HI510.out)) hg (IsS93.own_ne HI510.out HO_7.out (by decide))); have n5_ := Aside0.mk ((by rw [hw]; exact below_set (HB.out) GB24.out : Below w.heap.size w w29)); replace HO_7 := n0_; replace HO_504002 := n1_; replace BK495 := n2_; replace BK503 := n3_; replace HI510 := n4_; replace HB := n5_; clear n0_ n1_ n2_ n3_ n4_ n5_; clear hg hw hp_; have hnb30 := NB503_495.out; have hnc30 := NB495_503.out; have hnb31 := NB503_510.out; have hnc31 := NB510_503.out; obtain ⟨hcz32_0, hcz32_1, hcz32_2⟩ := cells3_ BK503.out; obtain ⟨hfz32_0, hfz32_1, hfz32_2⟩ := frz3_ BK503.out; have hnb33 := NB495_510.out; have hnc33 := NB510_495.out; obtain ⟨hcz34_0, hcz34_1, hcz34_2⟩ := cells3_ BK495.out; obtain ⟨hfz34_0, hfz34_1, hfz34_2⟩ := frz3_ BK495.out))
   refine bodyPost_ret (results_ct rfl _ _ gb495 43 #[.int .i64 t496, .int .i64 t497, .slice Ao11 t498.length co11] (0, 0) _ rfl (by (with_reducible repeat (first | refine blk_drewN ?_ _ | refine blk_drew ?_ | refine blk_alloc ?_ _)); refine blk_put (cs := #[.int .i64 t496, .int .i64 t497, .slice none 0 0]) ?_ 2 _ rfl; (with_reducible repeat (first | refine blk_drewN ?_ _ | refine blk_drew ?_ | refine blk_alloc ?_ _)); refine blk_put (cs := #[.int .i64 t496, .int .i64 0, .slice none 0 0]) ?_ 1 _ rfl; (with_reducible repeat (first | refine blk_drewN ?_ _ | refine blk_drew ?_ | refine blk_alloc ?_ _)); refine blk_put (cs := #[.int .i64 0, .int .i64 0, .slice none 0 0]) ?_ 0 _ rfl; (with_reducible repeat (first | refine blk_drewN ?_ _ | refine blk_drew ?_ | refine blk_alloc ?_ _)); exact BK495.out) Try.underlying43 rfl (by kernel_rfl)) rfl ?_
   exact ⟨_, _, by first | rfl | (simp [errW_none, errW_some] <;> rfl) | (simp [*, errW_none, errW_some] <;> rfl), by (with_reducible repeat (first | apply Kd.Q_alloc | apply Kd.Q_drewN | apply Kd.Q_drew)); exact Kd.Q_mono (Kd.Q_far (p := ⟨gb495, 2, none⟩) (Kd.Q_far (p := ⟨gb495, 1, none⟩) (Kd.Q_far (p := ⟨gb495, 0, none⟩) (Kd.Q_types HO_504002.out BK495.out (by decide)) (fun _ hk => hk.2) (.int .i64 t496)) (fun _ hk => hk.2) (.int .i64 t497)) (fun _ hk => hk.2) (.slice Ao11 t498.length co11)) (fun _ hk => hk.1.2), by (with_reducible repeat (first | apply Kd.R_alloc | apply Kd.R_drewN | apply Kd.R_drew)); exact Kd.R_mono (Kd.R_far (p := ⟨gb495, 2, none⟩) (Kd.R_far (p := ⟨gb495, 1, none⟩) (Kd.R_far (p := ⟨gb495, 0, none⟩) (Kd.R_types HO_7.out BK495.out (by decide)) (fun _ hk => hk.2) (.int .i64 t496)) (fun _ hk => hk.2) (.int .i64 t497)) (fun _ hk => hk.2) (.slice Ao11 t498.length co11)) (fun _ hk => hk.1), by repeat (first | (with_reducible first | exact HB.out | apply below_alloc | apply pw_below_drewN | apply below_drew1 | refine below_set ?_ (IsS93.ge HI510.out) | refine below_set ?_ GE495.out | refine below_set ?_ GE503.out) | exact HB.out)⟩

/-! ### spec_DrawIceOn: function 25 -/
def spec_DrawIceOn.f (k : Nat) (l0 : List Int) : Option (Int × Int × List Int × List Int) := (spec_DrawIsWay.f k l0).bind fun bt522 => (some (bt522.1, bt522.2.1, bt522.2.2.1, bt522.2.2.2))
theorem spec_DrawIceOn.mono : ∀ a0 k, LeO (spec_DrawIceOn.f k a0) (spec_DrawIceOn.f (k + 1) a0) := by
 intro a0 k
 unfold spec_DrawIceOn.f
 repeat' first
  | (with_reducible exact spec_DrawIsWay.mono _ _)
  | (with_reducible exact LeO.refl _)
  | (with_reducible exact LeO.none _)
  | (with_reducible refine LeO.ite ?_ ?_)
  | (with_reducible refine LeO.bind ?_ (fun _ => ?_))
  | exact spec_DrawIsWay.mono _ _
  | exact LeO.none _
  | refine LeO.ite ?_ ?_
  | refine LeO.bind ?_ (fun _ => ?_)
set_option maxHeartbeats 8000000 in
set_option maxRecDepth 100000 in
theorem spec_DrawIceOn.calls (k : Nat) (A0 : Option Addr) (c0 : Nat) (l0 : List Int) (r1 : Int) (r2 : Int) (r3 : List Int) (r4 : List Int) (w : World) (hr0 : Kd.C (Kd.int .u8) w A0 l0.length l0) (hc0 : l0.length ≤ c0) (h : spec_DrawIceOn.f k l0 = some (r1, r2, r3, r4)) :
 Calls Try.prog 25 #[.slice A0 l0.length c0] w fun e w' => ∃ v2_ v3_ : Value, e = .returned (.tuple #[.agg #[.int .i64 r1, .int .i64 r2, v2_], v3_]) ∧ Kd.Q (Kd.int .i64) 3 w' w.heap.size (fun k_ => some k_ ≠ (v3_ : Value).ownBlock) v2_ r3 ∧ Kd.R (Kd.int .i64) 3 w' w.heap.size (fun k_ => some k_ ≠ (v2_ : Value).ownBlock) v3_ r4 ∧ Below w.heap.size w w' := by
 have hu43 := Try.underlying43
 have HR0 := Aside0.mk hr0
 have HC0 := Aside0.mk hc0
 clear hr0 hc0
 have HB := Aside0.mk (Below.refl w.heap.size w)
 have H : ((spec_DrawIsWay.f k l0).bind fun bt522 => (some (bt522.1, bt522.2.1, bt522.2.2.1, bt522.2.2.2))) = some (r1, r2, r3, r4) := h
 clear h
 replace H := Option.bind_eq_some_iff.mp H
 obtain ⟨⟨t522, t523, t524, t527⟩, A20, H⟩ := H
 dsimp only at H
 have A2 := Aside0.mk A20
 clear A20
 simp only [Option.some.injEq, Prod.mk.injEq] at H
 obtain ⟨rfl, rfl, rfl, rfl⟩ := H
 go_enter Try.func25, Try.ntmps25
 go_wp2_with (first | ((with_reducible refine gate_dst (N := 2) rfl ?_); refine box_event ?hg (N := 2) ?hd (cs := #[.int .i64 0, .int .i64 0, .slice none 0 0]) (t := 43) ?hr ?_; (case hd => rfl); (case hg => rfl); (case hr => first | (go_simp; done) | (go_simp; rfl)); intro gb521 hg w3 hbox hb; have n0_ := Aside0.mk (below_step (below_up HB.out) hb); have n1_ := Aside0.mk (hbox); have n2_ := Aside0.mk (szle hg HB.out); have n3_ := Aside0.mk (szle hg HB.out); replace HB := n0_; have BK521 := n1_; have GW521 := n2_; have GE521 := n3_; clear n0_ n1_ n2_ n3_; clear hb hbox hg) | ((with_reducible refine gate_callee (f := 58) rfl ?_); refine goesL_ (some 5) rfl rfl Try.func58 (by kernel_rfl) rfl #[.slice A0 l0.length c0] rfl (by (try simp only [List.map_toArray, List.map_cons, List.map_nil]); first | done | rfl | (simp only [List.length_drop, List.length_take]; rfl)) ?_; (with_reducible refine (spec_DrawIsWay.calls k _ _ l0 t522 t523 t524 t527 _ ?side1 ?side2 A2.out).mono ?_); (case side1 => exact (Kd.C_below HR0.out (below_up HB.out))); (case side2 => exact HC0.out); rintro e w4 ⟨v525, v528, rfl, ho0, ho1, hb⟩; refine ⟨_, rfl, ?_⟩; have n0_ := Aside0.mk (Kd.Q_lower ho0 (below_size (by repeat (first | (with_reducible first | exact HB.out | apply below_alloc | apply pw_below_drewN | apply below_drew1 | refine below_set ?_ GE521.out) | exact HB.out)))); have n1_ := Aside0.mk (Kd.R_lower ho1 (below_size (by repeat (first | (with_reducible first | exact HB.out | apply below_alloc | apply pw_below_drewN | apply below_drew1 | refine below_set ?_ GE521.out) | exact HB.out)))); have n2_ := Aside0.mk (blk_below (blk_up BK521.out) hb); have n3_ := Aside0.mk (below_step (by repeat (first | (with_reducible first | exact HB.out | apply below_alloc | apply pw_below_drewN | apply below_drew1 | refine below_set ?_ GE521.out) | exact HB.out)) hb); have HO526 := n0_; have HO529 := n1_; replace BK521 := n2_; replace HB := n3_; clear n0_ n1_ n2_ n3_; (try clear hb); (try clear hb2); (try clear hk); (try clear hi); (try clear ho0); (try clear ho1); obtain ⟨hcz5_0, hcz5_1, hcz5_2⟩ := cells3_ BK521.out; obtain ⟨hfz5_0, hfz5_1, hfz5_2⟩ := frz3_ BK521.out; obtain ⟨Ao6, co6, eo6, _⟩ := Kd.Q_slice HO526.out; subst eo6))
 refine bodyPost_ret (results_ct rfl _ _ gb521 43 #[.int .i64 t522, .int .i64 t523, .slice Ao6 t524.length co6] (0, 0) _ rfl (by (with_reducible repeat (first | refine blk_drewN ?_ _ | refine blk_drew ?_ | refine blk_alloc ?_ _)); refine blk_put (cs := #[.int .i64 t522, .int .i64 t523, .slice none 0 0]) ?_ 2 _ rfl; (with_reducible repeat (first | refine blk_drewN ?_ _ | refine blk_drew ?_ | refine blk_alloc ?_ _)); refine blk_put (cs := #[.int .i64 t522, .int .i64 0, .slice none 0 0]) ?_ 1 _ rfl; (with_reducible repeat (first | refine blk_drewN ?_ _ | refine blk_drew ?_ | refine blk_alloc ?_ _)); refine blk_put (cs := #[.int .i64 0, .int .i64 0, .slice none 0 0]) ?_ 0 _ rfl; (with_reducible repeat (first | refine blk_drewN ?_ _ | refine blk_drew ?_ | refine blk_alloc ?_ _)); exact BK521.out) Try.underlying43 rfl (by kernel_rfl)) rfl ?_
 exact ⟨_, _, by first | rfl | (simp [errW_none, errW_some] <;> rfl) | (simp [*, errW_none, errW_some] <;> rfl), by (with_reducible repeat (first | apply Kd.Q_alloc | apply Kd.Q_drewN | apply Kd.Q_drew)); exact Kd.Q_mono (Kd.Q_far (p := ⟨gb521, 2, none⟩) (Kd.Q_far (p := ⟨gb521, 1, none⟩) (Kd.Q_far (p := ⟨gb521, 0, none⟩) (Kd.Q_types HO526.out BK521.out (by decide)) (fun _ hk => hk.2) (.int .i64 t522)) (fun _ hk => hk.2) (.int .i64 t523)) (fun _ hk => hk.2) (.slice Ao6 t524.length co6)) (fun _ hk => hk.1), by (with_reducible repeat (first | apply Kd.R_alloc | apply Kd.R_drewN | apply Kd.R_drew)); exact Kd.R_mono (Kd.R_far (p := ⟨gb521, 2, none⟩) (Kd.R_far (p := ⟨gb521, 1, none⟩) (Kd.R_far (p := ⟨gb521, 0, none⟩) (Kd.R_types HO529.out BK521.out (by decide)) (fun _ hk => hk.2) (.int .i64 t522)) (fun _ hk => hk.2) (.int .i64 t523)) (fun _ hk => hk.2) (.slice Ao6 t524.length co6)) (fun _ hk => hk.1), by repeat (first | (with_reducible first | exact HB.out | apply below_alloc | apply pw_below_drewN | apply below_drew1 | refine below_set ?_ GE521.out) | exact HB.out)⟩

/-! ### impl_allIn: function 86 -/
def impl_allIn.l0 : Nat → Int → Int → List Int → Int → Int → Option (Bool)
 | 0, _, _, _, _, _ => none
 | k + 1, x1, x2, x9, x10, x11 => if x11 < x10 then (if 0 ≤ x11 then (if x11 < (x9.length : Int) then ((impl_InRange.f (rd x9 x11) x1 x2).bind fun t531 => (if t531 = true then (impl_allIn.l0 k x1 x2 x9 x10 (wrap64 (x11 + 1))) else (some false))) else (none)) else (none)) else (some true)
def impl_allIn.f (k : Nat) (l0 : List Int) (a1 : Int) (a2 : Int) : Option (Bool) := impl_allIn.l0 k a1 a2 l0 (l0.length : Int) 0
theorem impl_allIn.mono_l : ∀ k, (∀ y0 y1 y2 y3 y4, LeO (impl_allIn.l0 k y0 y1 y2 y3 y4) (impl_allIn.l0 (k + 1) y0 y1 y2 y3 y4))
 | 0 => fun _ _ _ _ _ r h => by simp [impl_allIn.l0] at h
 | k + 1 => by
  have ih0 := impl_allIn.mono_l k
  · intro y0 y1 y2 y3 y4
    unfold impl_allIn.l0
    repeat' first
    | (with_reducible exact ih0 _ _ _ _ _)
    | (with_reducible exact LeO.refl _)
    | (with_reducible exact LeO.none _)
    | (with_reducible refine LeO.ite ?_ ?_)
    | (with_reducible refine LeO.bind ?_ (fun _ => ?_))
    | exact ih0 _ _ _ _ _
    | exact LeO.none _
    | refine LeO.ite ?_ ?_
    | refine LeO.bind ?_ (fun _ => ?_)
theorem impl_allIn.mono : ∀ a0 a1 a2 k, LeO (impl_allIn.f k a0 a1 a2) (impl_allIn.f (k + 1) a0 a1 a2) := by
 intro a0 a1 a2 k
 have ih0 := impl_allIn.mono_l k
 unfold impl_allIn.f
 repeat' first
  | (with_reducible exact ih0 _ _ _ _ _)
  | (with_reducible exact LeO.refl _)
  | (with_reducible exact LeO.none _)
  | (with_reducible refine LeO.ite ?_ ?_)
  | (with_reducible refine LeO.bind ?_ (fun _ => ?_))
  | exact ih0 _ _ _ _ _
  | exact LeO.none _
  | refine LeO.ite ?_ ?_
  | refine LeO.bind ?_ (fun _ => ?_)
set_option maxHeartbeats 8000000 in
set_option maxRecDepth 100000 in
theorem impl_allIn.calls (k : Nat) (A0 : Option Addr) (c0 : Nat) (l0 : List Int) (a1 : Int) (a2 : Int) (r : Bool) (w : World) (hr0 : Kd.C (Kd.int .i64) w A0 l0.length l0) (hc0 : l0.length ≤ c0) (h : impl_allIn.f k l0 a1 a2 = some r) :
 Calls Try.prog 86 #[.slice A0 l0.length c0, .int .i64 a1, .int .i64 a2] w fun e w' => e = .returned (.bool r) ∧ Drawn0 w w' := by
 have HR0 := Aside0.mk hr0
 have HC0 := Aside0.mk hc0
 clear hr0 hc0
 have H : (impl_allIn.l0 k a1 a2 l0 (l0.length : Int) 0) = some r := h
 clear h
 have H' := Aside0.mk H
 clear H
 go_enter Try.func86, Try.ntmps86
 go_wp2
 go_loopg [11] k (fun kq v11 w' => ∃ (x11_1 : Int), v11 = .int .i64 x11_1 ∧ Aside0 (impl_allIn.l0 kq a1 a2 l0 (l0.length : Int) x11_1 = some r) ∧ Aside0 (kq ≤ k) ∧ Drawn0 w w')
 case atStart => exact ⟨(0), (by first | rfl | (simp; done) | (simp [*]; done)), H', ⟨Nat.le_refl _⟩, by repeat (first | exact Drawn0.refl _ | apply Drawn0.step)⟩
 case round =>
  clear H'
  try clear p2
  obtain ⟨x11_1, rfl, HA, HK1, ⟨m1, rfl⟩⟩ := hrel
  cases gk with
  | zero => exact absurd HA.out (by simp [impl_allIn.l0])
  | succ k1 =>
   have H := HA.out
   clear HA
   simp only [impl_allIn.l0] at H
   by_cases c4 : x11_1 < (l0.length : Int)
   rotate_left
   · rw [if_neg c4] at H
     have c4b0 : decide (x11_1 < (l0.length : Int)) = false := decide_eq_false c4
     clear c4
     obtain rfl := Option.some.inj H
     go_wp2
     go_ret
     exact ⟨by first | rfl | (simp; done) | (simp [*]; done), by repeat (first | exact Drawn0.refl _ | apply Drawn0.step)⟩
   rw [if_pos c4] at H
   have c4b0 : decide (x11_1 < (l0.length : Int)) = true := decide_eq_true c4
   clear c4
   by_cases c5 : 0 ≤ x11_1
   rotate_left
   · rw [if_neg c5] at H
     exact absurd H (by simp)
   rw [if_pos c5] at H
   have c5b0 : decide (0 ≤ x11_1) = true := decide_eq_true c5
   clear c5
   by_cases c6 : x11_1 < (l0.length : Int)
   rotate_left
   · rw [if_neg c6] at H
     exact absurd H (by simp)
   rw [if_pos c6] at H
   have c6b0 : decide (x11_1 < (l0.length : Int)) = true := decide_eq_true c6
   clear c6
   replace H := Option.bind_eq_some_iff.mp H
   obtain ⟨t531, A70, H⟩ := H
   have A7 := Aside0.mk A70
   clear A70
   by_cases c8 : t531 = true
   rotate_left
   · replace c8 := Bool.eq_false_iff.mpr c8
     subst c8
     rw [if_neg (show ¬ (false = true) by decide)] at H
     obtain rfl := Option.some.inj H
     have p530 : 0 ≤ (x11_1 : Int) := of_decide_eq_true (by first | (with_reducible assumption) | assumption)
     have q530 : x11_1 < (l0.length : Int) := of_decide_eq_true (by first | (with_reducible assumption) | assumption)
     obtain ⟨ad530, e530, hx530_0⟩ := Kd.at_int HR0.out x11_1 p530 q530
     cases e530
     replace p530 := eq_true p530
     replace q530 := eq_true q530
     go_wp2_with (first | ((with_reducible refine gate_callee (f := 56) rfl ?_); refine goesL_ (some 18) rfl rfl Try.func56 (by kernel_rfl) rfl #[.int .i64 (rd l0 x11_1), .int .i64 a1, .int .i64 a2] rfl (by (try simp only [am_]); first | done | rfl) ?_; (with_reducible refine (impl_InRange.calls (rd l0 x11_1) a1 a2 false _ A7.out).mono ?_); rintro e w' ⟨rfl, ⟨nd, rfl⟩⟩; refine ⟨_, rfl, ?_⟩))
     go_ret
     exact ⟨by first | rfl | (simp; done) | (simp [*]; done), by repeat (first | exact Drawn0.refl _ | apply Drawn0.step)⟩
   subst c8
   rw [if_pos rfl] at H
   have H' := Aside0.mk H
   clear H
   have p530 : 0 ≤ (x11_1 : Int) := of_decide_eq_true (by first | (with_reducible assumption) | assumption)
   have q530 : x11_1 < (l0.length : Int) := of_decide_eq_true (by first | (with_reducible assumption) | assumption)
   obtain ⟨ad530, e530, hx530_0⟩ := Kd.at_int HR0.out x11_1 p530 q530
   cases e530
   replace p530 := eq_true p530
   replace q530 := eq_true q530
   go_wp2_with (first | ((with_reducible refine gate_callee (f := 56) rfl ?_); refine goesL_ (some 18) rfl rfl Try.func56 (by kernel_rfl) rfl #[.int .i64 (rd l0 x11_1), .int .i64 a1, .int .i64 a2] rfl (by (try simp only [am_]); first | done | rfl) ?_; (with_reducible refine (impl_InRange.calls (rd l0 x11_1) a1 a2 true _ A7.out).mono ?_); rintro e w' ⟨rfl, ⟨nd, rfl⟩⟩; refine ⟨_, rfl, ?_⟩))
   go_roundg k1
   case measure => have := HK1.out; omega
   case rel => exact ⟨(wrap64 (x11_1 + 1)), (by first | rfl | (simp; done) | (simp [*]; done)), H', ⟨by have := HK1.out; omega⟩, by repeat (first | exact Drawn0.refl _ | apply Drawn0.step)⟩

/-! ### impl_IsLand: function 73 -/
def impl_IsLand.f (k : Nat) (a0_0 : Int) (a0_1 : Int) (l0_2 : List Int) : Option (Bool) := (impl_InRange.f a0_0 1 8).bind fun t533 => (if t533 = true then ((impl_InRange.f a0_1 1 8).bind fun t534 => (if t534 = true then (if (l0_2.length : Int) = (wrap64 (a0_0 * a0_1)) then ((impl_allIn.f k l0_2 0 2).bind fun t535 => (some t535)) else (some false)) else (some false))) else (some false))
theorem impl_IsLand.mono : ∀ a0 a1 a2 k, LeO (impl_IsLand.f k a0 a1 a2) (impl_IsLand.f (k + 1) a0 a1 a2) := by
 intro a0 a1 a2 k
 unfold impl_IsLand.f
 repeat' first
  | (with_reducible exact impl_allIn.mono _ _ _ _)
  | (with_reducible exact LeO.refl _)
  | (with_reducible exact LeO.none _)
  | (with_reducible refine LeO.ite ?_ ?_)
  | (with_reducible refine LeO.bind ?_ (fun _ => ?_))
  | exact impl_allIn.mono _ _ _ _
  | exact LeO.none _
  | refine LeO.ite ?_ ?_
  | refine LeO.bind ?_ (fun _ => ?_)
set_option maxHeartbeats 8000000 in
set_option maxRecDepth 100000 in
theorem impl_IsLand.calls (k : Nat) (a0_0 : Int) (a0_1 : Int) (A0_2 : Option Addr) (c0_2 : Nat) (l0_2 : List Int) (r : Bool) (w : World) (hr0_2 : Kd.C (Kd.int .i64) w A0_2 l0_2.length l0_2) (hc0_2 : l0_2.length ≤ c0_2) (h : impl_IsLand.f k a0_0 a0_1 l0_2 = some r) :
 Calls Try.prog 73 #[.agg #[.int .i64 a0_0, .int .i64 a0_1, .slice A0_2 l0_2.length c0_2]] w fun e w' => e = .returned (.bool r) ∧ Below w.heap.size w w' := by
 have hu43 := Try.underlying43
 have HR0_2 := Aside0.mk hr0_2
 have HC0_2 := Aside0.mk hc0_2
 clear hr0_2 hc0_2
 have HB := Aside0.mk (Below.refl w.heap.size w)
 have H : ((impl_InRange.f a0_0 1 8).bind fun t533 => (if t533 = true then ((impl_InRange.f a0_1 1 8).bind fun t534 => (if t534 = true then (if (l0_2.length : Int) = (wrap64 (a0_0 * a0_1)) then ((impl_allIn.f k l0_2 0 2).bind fun t535 => (some t535)) else (some false)) else (some false))) else (some false))) = some r := h
 clear h
 replace H := Option.bind_eq_some_iff.mp H
 obtain ⟨t533, A20, H⟩ := H
 have A2 := Aside0.mk A20
 clear A20
 by_cases c3 : t533 = true
 rotate_left
 · replace c3 := Bool.eq_false_iff.mpr c3
   subst c3
   rw [if_neg (show ¬ (false = true) by decide)] at H
   obtain rfl := Option.some.inj H
   go_enter Try.func73, Try.ntmps73
   go_wp2_with (first | ((with_reducible refine gate_dst (N := 1) rfl ?_); (try (refine gate_guard (by rfl) ?_; dsimp only)); refine box_event ?hg (N := 1) ?hd (cs := #[.int .i64 a0_0, .int .i64 a0_1, .slice A0_2 l0_2.length c0_2]) (t := 43) ?hr ?_; (case hd => rfl); (case hg => rfl); (case hr => first | (go_simp; done) | (go_simp; rfl)); intro gb532 hg w14 hbox hb; have n0_ := Aside0.mk (below_step (below_up HB.out) hb); have n1_ := Aside0.mk (hbox); have n2_ := Aside0.mk (szle hg HB.out); have n3_ := Aside0.mk (szle hg HB.out); replace HB := n0_; have BK532 := n1_; have GW532 := n2_; have GE532 := n3_; clear n0_ n1_ n2_ n3_; clear hb hbox hg; obtain ⟨hcz15_0, hcz15_1, hcz15_2⟩ := cells3_ BK532.out; obtain ⟨hfz15_0, hfz15_1, hfz15_2⟩ := frz3_ BK532.out) | ((with_reducible refine gate_callee (f := 56) rfl ?_); refine goesL_ (some 5) rfl rfl Try.func56 (by kernel_rfl) rfl #[.int .i64 a0_0, .int .i64 1, .int .i64 8] rfl (by (try simp only [am_]); first | done | rfl) ?_; (with_reducible refine (impl_InRange.calls a0_0 1 8 false _ A2.out).mono ?_); rintro e w' ⟨rfl, ⟨nd, rfl⟩⟩; refine ⟨_, rfl, ?_⟩))
   go_ret
   exact ⟨by first | rfl | (simp [errW_none, errW_some] <;> rfl) | (simp [*, errW_none, errW_some] <;> rfl), below_up HB.out⟩
 subst c3
 rw [if_pos rfl] at H
 replace H := Option.bind_eq_some_iff.mp H
 obtain ⟨t534, A40, H⟩ := H
 have A4 := Aside0.mk A40
 clear A40
 by_cases c5 : t534 = true
 rotate_left
 · replace c5 := Bool.eq_false_iff.mpr c5
   subst c5
   rw [if_neg (show ¬ (false = true) by decide)] at H
   obtain rfl := Option.some.inj H
   go_enter Try.func73, Try.ntmps73
   go_wp2_with (first | ((with_reducible refine gate_dst (N := 1) rfl ?_); (try (refine gate_guard (by rfl) ?_; dsimp only)); refine box_event ?hg (N := 1) ?hd (cs := #[.int .i64 a0_0, .int .i64 a0_1, .slice A0_2 l0_2.length c0_2]) (t := 43) ?hr ?_; (case hd => rfl); (case hg => rfl); (case hr => first | (go_simp; done) | (go_simp; rfl)); intro gb532 hg w12 hbox hb; have n0_ := Aside0.mk (below_step (below_up HB.out) hb); have n1_ := Aside0.mk (hbox); have n2_ := Aside0.mk (szle hg HB.out); have n3_ := Aside0.mk (szle hg HB.out); replace HB := n0_; have BK532 := n1_; have GW532 := n2_; have GE532 := n3_; clear n0_ n1_ n2_ n3_; clear hb hbox hg; obtain ⟨hcz13_0, hcz13_1, hcz13_2⟩ := cells3_ BK532.out; obtain ⟨hfz13_0, hfz13_1, hfz13_2⟩ := frz3_ BK532.out) | ((with_reducible refine gate_callee (f := 56) rfl ?_); refine goesL_ (some 5) rfl rfl Try.func56 (by kernel_rfl) rfl #[.int .i64 a0_0, .int .i64 1, .int .i64 8] rfl (by (try simp only [am_]); first | done | rfl) ?_; (with_reducible refine (impl_InRange.calls a0_0 1 8 true _ A2.out).mono ?_); rintro e w' ⟨rfl, ⟨nd, rfl⟩⟩; refine ⟨_, rfl, ?_⟩) | (go_at_call 56; (with_reducible refine (impl_InRange.calls a0_1 1 8 false _ A4.out).mono ?_); rintro e w' ⟨rfl, ⟨nd, rfl⟩⟩))
   go_ret
   exact ⟨by first | rfl | (simp [errW_none, errW_some] <;> rfl) | (simp [*, errW_none, errW_some] <;> rfl), below_up HB.out⟩
 subst c5
 rw [if_pos rfl] at H
 by_cases c6 : (l0_2.length : Int) = (wrap64 (a0_0 * a0_1))
 rotate_left
 · rw [if_neg c6] at H
   have c6b0 : ((l0_2.length : Int) == (wrap64 (a0_0 * a0_1))) = false := beq_eq_false_iff_ne.mpr c6
   have c6b1 : ((l0_2.length : Int) != (wrap64 (a0_0 * a0_1))) = true := bne_iff_ne.mpr c6
   obtain rfl := Option.some.inj H
   go_enter Try.func73, Try.ntmps73
   go_wp2_with (first | ((with_reducible refine gate_dst (N := 1) rfl ?_); (try (refine gate_guard (by rfl) ?_; dsimp only)); refine box_event ?hg (N := 1) ?hd (cs := #[.int .i64 a0_0, .int .i64 a0_1, .slice A0_2 l0_2.length c0_2]) (t := 43) ?hr ?_; (case hd => rfl); (case hg => rfl); (case hr => first | (go_simp; done) | (go_simp; rfl)); intro gb532 hg w10 hbox hb; have n0_ := Aside0.mk (below_step (below_up HB.out) hb); have n1_ := Aside0.mk (hbox); have n2_ := Aside0.mk (szle hg HB.out); have n3_ := Aside0.mk (szle hg HB.out); replace HB := n0_; have BK532 := n1_; have GW532 := n2_; have GE532 := n3_; clear n0_ n1_ n2_ n3_; clear hb hbox hg; obtain ⟨hcz11_0, hcz11_1, hcz11_2⟩ := cells3_ BK532.out; obtain ⟨hfz11_0, hfz11_1, hfz11_2⟩ := frz3_ BK532.out) | ((with_reducible refine gate_callee (f := 56) rfl ?_); refine goesL_ (some 5) rfl rfl Try.func56 (by kernel_rfl) rfl #[.int .i64 a0_0, .int .i64 1, .int .i64 8] rfl (by (try simp only [am_]); first | done | rfl) ?_; (with_reducible refine (impl_InRange.calls a0_0 1 8 true _ A2.out).mono ?_); rintro e w' ⟨rfl, ⟨nd, rfl⟩⟩; refine ⟨_, rfl, ?_⟩) | (go_at_call 56; (with_reducible refine (impl_InRange.calls a0_1 1 8 true _ A4.out).mono ?_); rintro e w' ⟨rfl, ⟨nd, rfl⟩⟩))
   go_ret
   exact ⟨by first | rfl | (simp [errW_none, errW_some] <;> rfl) | (simp [*, errW_none, errW_some] <;> rfl), below_up HB.out⟩
 rw [if_pos c6] at H
 have c6b0 : ((l0_2.length : Int) == (wrap64 (a0_0 * a0_1))) = true := beq_iff_eq.mpr c6
 have c6b1 : ((l0_2.length : Int) != (wrap64 (a0_0 * a0_1))) = false := bne_eq_false_iff_eq.mpr c6
 clear c6
 replace H := Option.bind_eq_some_iff.mp H
 obtain ⟨t535, A70, H⟩ := H
 have A7 := Aside0.mk A70
 clear A70
 obtain rfl := Option.some.inj H
 go_enter Try.func73, Try.ntmps73
 go_wp2_with (first | ((with_reducible refine gate_dst (N := 1) rfl ?_); (try (refine gate_guard (by rfl) ?_; dsimp only)); refine box_event ?hg (N := 1) ?hd (cs := #[.int .i64 a0_0, .int .i64 a0_1, .slice A0_2 l0_2.length c0_2]) (t := 43) ?hr ?_; (case hd => rfl); (case hg => rfl); (case hr => first | (go_simp; done) | (go_simp; rfl)); intro gb532 hg w8 hbox hb; have n0_ := Aside0.mk (below_step (below_up HB.out) hb); have n1_ := Aside0.mk (hbox); have n2_ := Aside0.mk (szle hg HB.out); have n3_ := Aside0.mk (szle hg HB.out); replace HB := n0_; have BK532 := n1_; have GW532 := n2_; have GE532 := n3_; clear n0_ n1_ n2_ n3_; clear hb hbox hg; obtain ⟨hcz9_0, hcz9_1, hcz9_2⟩ := cells3_ BK532.out; obtain ⟨hfz9_0, hfz9_1, hfz9_2⟩ := frz3_ BK532.out) | ((with_reducible refine gate_callee (f := 56) rfl ?_); refine goesL_ (some 5) rfl rfl Try.func56 (by kernel_rfl) rfl #[.int .i64 a0_0, .int .i64 1, .int .i64 8] rfl (by (try simp only [am_]); first | done | rfl) ?_; (with_reducible refine (impl_InRange.calls a0_0 1 8 true _ A2.out).mono ?_); rintro e w' ⟨rfl, ⟨nd, rfl⟩⟩; refine ⟨_, rfl, ?_⟩) | (go_at_call 56; (with_reducible refine (impl_InRange.calls a0_1 1 8 true _ A4.out).mono ?_); rintro e w' ⟨rfl, ⟨nd, rfl⟩⟩) | (go_at_call 86; (with_reducible refine (impl_allIn.calls k _ _ l0_2 0 2 t535 _ ?side1 ?side2 A7.out).mono ?_); (case side1 => exact (Kd.C_below HR0_2.out (below_up HB.out))); (case side2 => exact HC0_2.out); rintro e w' ⟨rfl, ⟨nd, rfl⟩⟩))
 go_ret
 exact ⟨by first | rfl | (simp [errW_none, errW_some] <;> rfl) | (simp [*, errW_none, errW_some] <;> rfl), below_up HB.out⟩

end Go.Proofs.Ytdgpnmbmnnmdcaa.PFnRopes
