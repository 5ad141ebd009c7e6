/- Contracts of Go functions: what print.sh prints, written shorter by low.py. -/
import Derived.Test.YtdgpnmbmnnmdcabLow
import Derived.Test.YtdgpnmbmnnmdcabUp
import Derived.Test.YtdgpnmbmnnmdcabPFnExactNeedHomex0
import Derived.Test.YtdgpnmbmnnmdcabPFnExactNeedHomex7
import Derived.Test.YtdgpnmbmnnmdcabPFnExactNeedHomex8
import Derived.Test.YtdgpnmbmnnmdcabPFnExactNeedHomex10
namespace Go.Proofs.Ytdgpnmbmnnmdcab.PFnExactNeedHome
open Go.RowKit Go.Proofs.YtdgpnmbmnnmdcabW.PrintWords Go.Proofs.YtdgpnmbmnnmdcabW.PrintLast Go.Proofs.YtdgpnmbmnnmdcabW.PrintMore
attribute [local go_sem] max2_int min2_int max_two min_two max_three min_three max_four min_four   -- for this text's walks alone
set_option linter.unusedVariables false
set_option linter.unusedSimpArgs false

/-! ### impl_IsParty: function 62 -/
def impl_IsParty.f (k : Nat) (a0_0 : Int) (a0_1 : Int) (l0_2 : List Int) (a1_0 : Int) (a1_1 : Int) (l1_2 : List (S95)) (l1_3 : List Bool) : Option (Bool) := (impl_IsOpen.f k a0_0 a0_1 l0_2 a1_0).bind fun t349 => (if t349 = true then ((impl_AreCrew.f k l1_2).bind fun t350 => (if t350 = true then ((impl_InRange.f a1_1 0 10000).bind fun t351 => (if t351 = true then (some (decide ((l1_3.length : Int) ≤ 10))) else (some false))) else (some false))) else (some false))
theorem impl_IsParty.mono : ∀ a0 a1 a2 a3 a4 a5 a6 k, LeO (impl_IsParty.f k a0 a1 a2 a3 a4 a5 a6) (impl_IsParty.f (k + 1) a0 a1 a2 a3 a4 a5 a6) := by
 intro a0 a1 a2 a3 a4 a5 a6 k
 unfold impl_IsParty.f
 repeat' first
  | (with_reducible exact impl_AreCrew.mono _ _)
  | (with_reducible exact impl_IsOpen.mono _ _ _ _ _)
  | (with_reducible exact LeO.refl _)
  | (with_reducible exact LeO.none _)
  | (with_reducible refine LeO.ite ?_ ?_)
  | (with_reducible refine LeO.bind ?_ (fun _ => ?_))
  | exact impl_AreCrew.mono _ _
  | exact impl_IsOpen.mono _ _ _ _ _
  | exact LeO.none _
  | refine LeO.ite ?_ ?_
  | refine LeO.bind ?_ (fun _ => ?_)
set_option maxHeartbeats 8000000 in
set_option maxRecDepth 100000 in
theorem impl_IsParty.calls (k : Nat) (a0_0 : Int) (a0_1 : Int) (A0_2 : Option Addr) (c0_2 : Nat) (l0_2 : List Int) (a1_0 : Int) (a1_1 : Int) (A1_2 : Option Addr) (c1_2 : Nat) (l1_2 : List (S95)) (A1_3 : Option Addr) (c1_3 : Nat) (l1_3 : List Bool) (r : Bool) (w : World) (hr0_2 : Kd.C (Kd.int .i64) w A0_2 l0_2.length l0_2) (hc0_2 : l0_2.length ≤ c0_2) (hr1_2 : Kd.C k95 w A1_2 l1_2.length l1_2) (hc1_2 : l1_2.length ≤ c1_2) (hr1_3 : Kd.C Kd.bool w A1_3 l1_3.length l1_3) (hc1_3 : l1_3.length ≤ c1_3) (h : impl_IsParty.f k a0_0 a0_1 l0_2 a1_0 a1_1 l1_2 l1_3 = some r) :
 Calls Try.prog 62 #[.agg #[.int .i64 a0_0, .int .i64 a0_1, .slice A0_2 l0_2.length c0_2], .agg #[.int .i64 a1_0, .int .i64 a1_1, .slice A1_2 l1_2.length c1_2, .slice A1_3 l1_3.length c1_3]] w fun e w' => e = .returned (.bool r) ∧ Below w.heap.size w w' := by
 have hu27 := Try.underlying27
 have hu59 := Try.underlying59
 have HR0_2 := Aside0.mk hr0_2
 have HC0_2 := Aside0.mk hc0_2
 clear hr0_2 hc0_2
 have HR1_2 := Aside0.mk hr1_2
 have HC1_2 := Aside0.mk hc1_2
 clear hr1_2 hc1_2
 have HR1_3 := Aside0.mk hr1_3
 have HC1_3 := Aside0.mk hc1_3
 clear hr1_3 hc1_3
 have HB := Aside0.mk (Below.refl w.heap.size w)
 have H : ((impl_IsOpen.f k a0_0 a0_1 l0_2 a1_0).bind fun t349 => (if t349 = true then ((impl_AreCrew.f k l1_2).bind fun t350 => (if t350 = true then ((impl_InRange.f a1_1 0 10000).bind fun t351 => (if t351 = true then (some (decide ((l1_3.length : Int) ≤ 10))) else (some false))) else (some false))) else (some false))) = some r := h
 clear h
 replace H := Option.bind_eq_some_iff.mp H
 obtain ⟨t349, A30, H⟩ := H
 have A3 := Aside0.mk A30
 clear A30
 by_cases c4 : t349 = true
 rotate_left
 · replace c4 := Bool.eq_false_iff.mpr c4
   subst c4
   rw [if_neg (show ¬ (false = true) by decide)] at H
   obtain rfl := Option.some.inj H
   go_enter Try.func62, Try.ntmps62
   go_wp2_with (first | ((with_reducible refine gate_dst (N := 2) rfl ?_); (try (refine gate_guard (by rfl) ?_; dsimp only)); refine box_event ?hg (N := 2) ?hd (cs := #[.int .i64 a0_0, .int .i64 a0_1, .slice A0_2 l0_2.length c0_2]) (t := 27) ?hr ?_; (case hd => rfl); (case hg => rfl); (case hr => first | (go_simp; done) | (go_simp; rfl)); intro gb347 hg w35 hbox hb; have n0_ := Aside0.mk (below_step (below_up HB.out) hb); have n1_ := Aside0.mk (hbox); have n2_ := Aside0.mk (szle hg HB.out); have n3_ := Aside0.mk (szle hg HB.out); replace HB := n0_; have BK347 := n1_; have GW347 := n2_; have GE347 := n3_; clear n0_ n1_ n2_ n3_; clear hb hbox hg) | ((with_reducible refine gate_dst (N := 3) rfl ?_); (try (refine gate_guard (by rfl) ?_; dsimp only)); refine box_event ?hg (N := 3) ?hd (cs := #[.int .i64 a1_0, .int .i64 a1_1, .slice A1_2 l1_2.length c1_2, .slice A1_3 l1_3.length c1_3]) (t := 59) ?hr ?_; (case hd => rfl); (case hg => rfl); (case hr => first | (go_simp; done) | (go_simp; rfl)); intro gb348 hg w36 hbox hb; have n0_ := Aside0.mk (blk_below (blk_up BK347.out) hb); have n1_ := Aside0.mk (below_step (below_up HB.out) hb); have n2_ := Aside0.mk (hbox); have n3_ := Aside0.mk (szle hg HB.out); have n4_ := Aside0.mk (szle hg HB.out); have n5_ := Aside0.mk ((by rw [hg]; exact Nat.ne_of_lt (blk_lt (g := gb347) (o := .cells #[.int .i64 a0_0, .int .i64 a0_1, .slice A0_2 l0_2.length c0_2] 27 (0, 0)) (by (with_reducible repeat (first | refine blk_drewN ?_ _ | refine blk_drew ?_ | refine blk_alloc ?_ _)); exact BK347.out)) : gb347 ≠ gb348)); have n6_ := Aside0.mk ((by rw [hg]; exact Nat.ne_of_gt (blk_lt (g := gb347) (o := .cells #[.int .i64 a0_0, .int .i64 a0_1, .slice A0_2 l0_2.length c0_2] 27 (0, 0)) (by (with_reducible repeat (first | refine blk_drewN ?_ _ | refine blk_drew ?_ | refine blk_alloc ?_ _)); exact BK347.out)) : gb348 ≠ gb347)); replace BK347 := n0_; replace HB := n1_; have BK348 := n2_; have GW348 := n3_; have GE348 := n4_; have NB347_348 := n5_; have NB348_347 := n6_; clear n0_ n1_ n2_ n3_ n4_ n5_ n6_; clear hb hbox hg; have hnb37 := NB347_348.out; have hnc37 := NB348_347.out; obtain ⟨hcz38_0, hcz38_1, hcz38_2⟩ := cells3_ BK347.out; obtain ⟨hfz38_0, hfz38_1, hfz38_2⟩ := frz3_ BK347.out; obtain ⟨hcz39_0, hcz39_1, hcz39_2, hcz39_3⟩ := cells4_ BK348.out; obtain ⟨hfz39_0, hfz39_1, hfz39_2, hfz39_3⟩ := frz4_ BK348.out) | ((with_reducible refine gate_callee (f := 26) rfl ?_); refine goesL_ (some 8) rfl rfl Try.func26 (by kernel_rfl) rfl #[.agg #[.int .i64 a0_0, .int .i64 a0_1, .slice A0_2 l0_2.length c0_2], .int .i64 a1_0] rfl (by (try simp only [am_]); first | done | rfl) ?_; (with_reducible refine (impl_IsOpen.calls k a0_0 a0_1 _ _ l0_2 a1_0 false _ ?side1 ?side2 A3.out).mono ?_); (case side1 => exact (Kd.C_below HR0_2.out (below_up HB.out))); (case side2 => exact HC0_2.out); rintro e w40 ⟨rfl, hb⟩; refine ⟨_, rfl, ?_⟩; have n0_ := Aside0.mk (blk_below (blk_up BK347.out) hb); have n1_ := Aside0.mk (blk_below (blk_up BK348.out) hb); have n2_ := Aside0.mk (below_step (below_up HB.out) hb); replace BK347 := n0_; replace BK348 := n1_; replace HB := n2_; clear n0_ n1_ n2_; (try clear hb); (try clear hb2); (try clear hk); (try clear hi)))
   go_ret
   exact ⟨by first | rfl | (simp [errW_none, errW_some] <;> rfl) | (simp [*, errW_none, errW_some] <;> rfl), below_up HB.out⟩
 subst c4
 rw [if_pos rfl] at H
 replace H := Option.bind_eq_some_iff.mp H
 obtain ⟨t350, A50, H⟩ := H
 have A5 := Aside0.mk A50
 clear A50
 by_cases c6 : t350 = true
 rotate_left
 · replace c6 := Bool.eq_false_iff.mpr c6
   subst c6
   rw [if_neg (show ¬ (false = true) by decide)] at H
   obtain rfl := Option.some.inj H
   go_enter Try.func62, Try.ntmps62
   go_wp2_with (first | ((with_reducible refine gate_dst (N := 2) rfl ?_); (try (refine gate_guard (by rfl) ?_; dsimp only)); refine box_event ?hg (N := 2) ?hd (cs := #[.int .i64 a0_0, .int .i64 a0_1, .slice A0_2 l0_2.length c0_2]) (t := 27) ?hr ?_; (case hd => rfl); (case hg => rfl); (case hr => first | (go_simp; done) | (go_simp; rfl)); intro gb347 hg w27 hbox hb; have n0_ := Aside0.mk (below_step (below_up HB.out) hb); have n1_ := Aside0.mk (hbox); have n2_ := Aside0.mk (szle hg HB.out); have n3_ := Aside0.mk (szle hg HB.out); replace HB := n0_; have BK347 := n1_; have GW347 := n2_; have GE347 := n3_; clear n0_ n1_ n2_ n3_; clear hb hbox hg) | ((with_reducible refine gate_dst (N := 3) rfl ?_); (try (refine gate_guard (by rfl) ?_; dsimp only)); refine box_event ?hg (N := 3) ?hd (cs := #[.int .i64 a1_0, .int .i64 a1_1, .slice A1_2 l1_2.length c1_2, .slice A1_3 l1_3.length c1_3]) (t := 59) ?hr ?_; (case hd => rfl); (case hg => rfl); (case hr => first | (go_simp; done) | (go_simp; rfl)); intro gb348 hg w28 hbox hb; have n0_ := Aside0.mk (blk_below (blk_up BK347.out) hb); have n1_ := Aside0.mk (below_step (below_up HB.out) hb); have n2_ := Aside0.mk (hbox); have n3_ := Aside0.mk (szle hg HB.out); have n4_ := Aside0.mk (szle hg HB.out); have n5_ := Aside0.mk ((by rw [hg]; exact Nat.ne_of_lt (blk_lt (g := gb347) (o := .cells #[.int .i64 a0_0, .int .i64 a0_1, .slice A0_2 l0_2.length c0_2] 27 (0, 0)) (by (with_reducible repeat (first | refine blk_drewN ?_ _ | refine blk_drew ?_ | refine blk_alloc ?_ _)); exact BK347.out)) : gb347 ≠ gb348)); have n6_ := Aside0.mk ((by rw [hg]; exact Nat.ne_of_gt (blk_lt (g := gb347) (o := .cells #[.int .i64 a0_0, .int .i64 a0_1, .slice A0_2 l0_2.length c0_2] 27 (0, 0)) (by (with_reducible repeat (first | refine blk_drewN ?_ _ | refine blk_drew ?_ | refine blk_alloc ?_ _)); exact BK347.out)) : gb348 ≠ gb347)); replace BK347 := n0_; replace HB := n1_; have BK348 := n2_; have GW348 := n3_; have GE348 := n4_; have NB347_348 := n5_; have NB348_347 := n6_; clear n0_ n1_ n2_ n3_ n4_ n5_ n6_; clear hb hbox hg; have hnb29 := NB347_348.out; have hnc29 := NB348_347.out; obtain ⟨hcz30_0, hcz30_1, hcz30_2⟩ := cells3_ BK347.out; obtain ⟨hfz30_0, hfz30_1, hfz30_2⟩ := frz3_ BK347.out; obtain ⟨hcz31_0, hcz31_1, hcz31_2, hcz31_3⟩ := cells4_ BK348.out; obtain ⟨hfz31_0, hfz31_1, hfz31_2, hfz31_3⟩ := frz4_ BK348.out) | ((with_reducible refine gate_callee (f := 26) rfl ?_); refine goesL_ (some 8) rfl rfl Try.func26 (by kernel_rfl) rfl #[.agg #[.int .i64 a0_0, .int .i64 a0_1, .slice A0_2 l0_2.length c0_2], .int .i64 a1_0] rfl (by (try simp only [am_]); first | done | rfl) ?_; (with_reducible refine (impl_IsOpen.calls k a0_0 a0_1 _ _ l0_2 a1_0 true _ ?side1 ?side2 A3.out).mono ?_); (case side1 => exact (Kd.C_below HR0_2.out (below_up HB.out))); (case side2 => exact HC0_2.out); rintro e w32 ⟨rfl, hb⟩; refine ⟨_, rfl, ?_⟩; have n0_ := Aside0.mk (blk_below (blk_up BK347.out) hb); have n1_ := Aside0.mk (blk_below (blk_up BK348.out) hb); have n2_ := Aside0.mk (below_step (below_up HB.out) hb); replace BK347 := n0_; replace BK348 := n1_; replace HB := n2_; clear n0_ n1_ n2_; (try clear hb); (try clear hb2); (try clear hk); (try clear hi); obtain ⟨hcz33_0, hcz33_1, hcz33_2, hcz33_3⟩ := cells4_ BK348.out; obtain ⟨hfz33_0, hfz33_1, hfz33_2, hfz33_3⟩ := frz4_ BK348.out) | (go_at_call 83; (with_reducible refine (impl_AreCrew.calls k _ _ l1_2 false _ ?side1 ?side2 A5.out).mono ?_); (case side1 => exact (Kd.C_below HR1_2.out (below_up HB.out))); (case side2 => exact HC1_2.out); rintro e w34 ⟨rfl, hb⟩; have n0_ := Aside0.mk (blk_below (blk_up BK347.out) hb); have n1_ := Aside0.mk (blk_below (blk_up BK348.out) hb); have n2_ := Aside0.mk (below_step (below_up HB.out) hb); replace BK347 := n0_; replace BK348 := n1_; replace HB := n2_; clear n0_ n1_ n2_; (try clear hb); (try clear hb2); (try clear hk); (try clear hi)))
   go_ret
   exact ⟨by first | rfl | (simp [errW_none, errW_some] <;> rfl) | (simp [*, errW_none, errW_some] <;> rfl), below_up HB.out⟩
 subst c6
 rw [if_pos rfl] at H
 replace H := Option.bind_eq_some_iff.mp H
 obtain ⟨t351, A70, H⟩ := H
 have A7 := Aside0.mk A70
 clear A70
 by_cases c8 : t351 = true
 · subst c8
   rw [if_pos rfl] at H
   obtain rfl := Option.some.inj H
   go_enter Try.func62, Try.ntmps62
   go_wp2_with (first | ((with_reducible refine gate_dst (N := 2) rfl ?_); (try (refine gate_guard (by rfl) ?_; dsimp only)); refine box_event ?hg (N := 2) ?hd (cs := #[.int .i64 a0_0, .int .i64 a0_1, .slice A0_2 l0_2.length c0_2]) (t := 27) ?hr ?_; (case hd => rfl); (case hg => rfl); (case hr => first | (go_simp; done) | (go_simp; rfl)); intro gb347 hg w9 hbox hb; have n0_ := Aside0.mk (below_step (below_up HB.out) hb); have n1_ := Aside0.mk (hbox); have n2_ := Aside0.mk (szle hg HB.out); have n3_ := Aside0.mk (szle hg HB.out); replace HB := n0_; have BK347 := n1_; have GW347 := n2_; have GE347 := n3_; clear n0_ n1_ n2_ n3_; clear hb hbox hg) | ((with_reducible refine gate_dst (N := 3) rfl ?_); (try (refine gate_guard (by rfl) ?_; dsimp only)); refine box_event ?hg (N := 3) ?hd (cs := #[.int .i64 a1_0, .int .i64 a1_1, .slice A1_2 l1_2.length c1_2, .slice A1_3 l1_3.length c1_3]) (t := 59) ?hr ?_; (case hd => rfl); (case hg => rfl); (case hr => first | (go_simp; done) | (go_simp; rfl)); intro gb348 hg w10 hbox hb; have n0_ := Aside0.mk (blk_below (blk_up BK347.out) hb); have n1_ := Aside0.mk (below_step (below_up HB.out) hb); have n2_ := Aside0.mk (hbox); have n3_ := Aside0.mk (szle hg HB.out); have n4_ := Aside0.mk (szle hg HB.out); have n5_ := Aside0.mk ((by rw [hg]; exact Nat.ne_of_lt (blk_lt (g := gb347) (o := .cells #[.int .i64 a0_0, .int .i64 a0_1, .slice A0_2 l0_2.length c0_2] 27 (0, 0)) (by (with_reducible repeat (first | refine blk_drewN ?_ _ | refine blk_drew ?_ | refine blk_alloc ?_ _)); exact BK347.out)) : gb347 ≠ gb348)); have n6_ := Aside0.mk ((by rw [hg]; exact Nat.ne_of_gt (blk_lt (g := gb347) (o := .cells #[.int .i64 a0_0, .int .i64 a0_1, .slice A0_2 l0_2.length c0_2] 27 (0, 0)) (by (with_reducible repeat (first | refine blk_drewN ?_ _ | refine blk_drew ?_ | refine blk_alloc ?_ _)); exact BK347.out)) : gb348 ≠ gb347)); replace BK347 := n0_; replace HB := n1_; have BK348 := n2_; have GW348 := n3_; have GE348 := n4_; have NB347_348 := n5_; have NB348_347 := n6_; clear n0_ n1_ n2_ n3_ n4_ n5_ n6_; clear hb hbox hg; have hnb11 := NB347_348.out; have hnc11 := NB348_347.out; obtain ⟨hcz12_0, hcz12_1, hcz12_2⟩ := cells3_ BK347.out; obtain ⟨hfz12_0, hfz12_1, hfz12_2⟩ := frz3_ BK347.out; obtain ⟨hcz13_0, hcz13_1, hcz13_2, hcz13_3⟩ := cells4_ BK348.out; obtain ⟨hfz13_0, hfz13_1, hfz13_2, hfz13_3⟩ := frz4_ BK348.out) | ((with_reducible refine gate_callee (f := 26) rfl ?_); refine goesL_ (some 8) rfl rfl Try.func26 (by kernel_rfl) rfl #[.agg #[.int .i64 a0_0, .int .i64 a0_1, .slice A0_2 l0_2.length c0_2], .int .i64 a1_0] rfl (by (try simp only [am_]); first | done | rfl) ?_; (with_reducible refine (impl_IsOpen.calls k a0_0 a0_1 _ _ l0_2 a1_0 true _ ?side1 ?side2 A3.out).mono ?_); (case side1 => exact (Kd.C_below HR0_2.out (below_up HB.out))); (case side2 => exact HC0_2.out); rintro e w14 ⟨rfl, hb⟩; refine ⟨_, rfl, ?_⟩; have n0_ := Aside0.mk (blk_below (blk_up BK347.out) hb); have n1_ := Aside0.mk (blk_below (blk_up BK348.out) hb); have n2_ := Aside0.mk (below_step (below_up HB.out) hb); replace BK347 := n0_; replace BK348 := n1_; replace HB := n2_; clear n0_ n1_ n2_; (try clear hb); (try clear hb2); (try clear hk); (try clear hi); obtain ⟨hcz15_0, hcz15_1, hcz15_2, hcz15_3⟩ := cells4_ BK348.out; obtain ⟨hfz15_0, hfz15_1, hfz15_2, hfz15_3⟩ := frz4_ BK348.out) | (go_at_call 83; (with_reducible refine (impl_AreCrew.calls k _ _ l1_2 true _ ?side1 ?side2 A5.out).mono ?_); (case side1 => exact (Kd.C_below HR1_2.out (below_up HB.out))); (case side2 => exact HC1_2.out); rintro e w16 ⟨rfl, hb⟩; have n0_ := Aside0.mk (blk_below (blk_up BK347.out) hb); have n1_ := Aside0.mk (blk_below (blk_up BK348.out) hb); have n2_ := Aside0.mk (below_step (below_up HB.out) hb); replace BK347 := n0_; replace BK348 := n1_; replace HB := n2_; clear n0_ n1_ n2_; (try clear hb); (try clear hb2); (try clear hk); (try clear hi); obtain ⟨hcz17_0, hcz17_1, hcz17_2, hcz17_3⟩ := cells4_ BK348.out; obtain ⟨hfz17_0, hfz17_1, hfz17_2, hfz17_3⟩ := frz4_ BK348.out) | (go_at_call 70; (with_reducible refine (impl_InRange.calls a1_1 0 10000 true _ A7.out).mono ?_); rintro e w' ⟨rfl, ⟨nd, rfl⟩⟩))
   go_ret
   exact ⟨by first | rfl | (simp [errW_none, errW_some] <;> rfl) | (simp [*, errW_none, errW_some] <;> rfl), below_up HB.out⟩
 replace c8 := Bool.eq_false_iff.mpr c8
 subst c8
 rw [if_neg (show ¬ (false = true) by decide)] at H
 obtain rfl := Option.some.inj H
 go_enter Try.func62, Try.ntmps62
 go_wp2_with (first | ((with_reducible refine gate_dst (N := 2) rfl ?_); (try (refine gate_guard (by rfl) ?_; dsimp only)); refine box_event ?hg (N := 2) ?hd (cs := #[.int .i64 a0_0, .int .i64 a0_1, .slice A0_2 l0_2.length c0_2]) (t := 27) ?hr ?_; (case hd => rfl); (case hg => rfl); (case hr => first | (go_simp; done) | (go_simp; rfl)); intro gb347 hg w18 hbox hb; have n0_ := Aside0.mk (below_step (below_up HB.out) hb); have n1_ := Aside0.mk (hbox); have n2_ := Aside0.mk (szle hg HB.out); have n3_ := Aside0.mk (szle hg HB.out); replace HB := n0_; have BK347 := n1_; have GW347 := n2_; have GE347 := n3_; clear n0_ n1_ n2_ n3_; clear hb hbox hg) | ((with_reducible refine gate_dst (N := 3) rfl ?_); (try (refine gate_guard (by rfl) ?_; dsimp only)); refine box_event ?hg (N := 3) ?hd (cs := #[.int .i64 a1_0, .int .i64 a1_1, .slice A1_2 l1_2.length c1_2, .slice A1_3 l1_3.length c1_3]) (t := 59) ?hr ?_; (case hd => rfl); (case hg => rfl); (case hr => first | (go_simp; done) | (go_simp; rfl)); intro gb348 hg w19 hbox hb; have n0_ := Aside0.mk (blk_below (blk_up BK347.out) hb); have n1_ := Aside0.mk (below_step (below_up HB.out) hb); have n2_ := Aside0.mk (hbox); have n3_ := Aside0.mk (szle hg HB.out); have n4_ := Aside0.mk (szle hg HB.out); have n5_ := Aside0.mk ((by rw [hg]; exact Nat.ne_of_lt (blk_lt (g := gb347) (o := .cells #[.int .i64 a0_0, .int .i64 a0_1, .slice A0_2 l0_2.length c0_2] 27 (0, 0)) (by (with_reducible repeat (first | refine blk_drewN ?_ _ | refine blk_drew ?_ | refine blk_alloc ?_ _)); exact BK347.out)) : gb347 ≠ gb348)); have n6_ := Aside0.mk ((by rw [hg]; exact Nat.ne_of_gt (blk_lt (g := gb347) (o := .cells #[.int .i64 a0_0, .int .i64 a0_1, .slice A0_2 l0_2.length c0_2] 27 (0, 0)) (by (with_reducible repeat (first | refine blk_drewN ?_ _ | refine blk_drew ?_ | refine blk_alloc ?_ _)); exact BK347.out)) : gb348 ≠ gb347)); replace BK347 := n0_; replace HB := n1_; have BK348 := n2_; have GW348 := n3_; have GE348 := n4_; have NB347_348 := n5_; have NB348_347 := n6_; clear n0_ n1_ n2_ n3_ n4_ n5_ n6_; clear hb hbox hg; have hnb20 := NB347_348.out; have hnc20 := NB348_347.out; obtain ⟨hcz21_0, hcz21_1, hcz21_2⟩ := cells3_ BK347.out; obtain ⟨hfz21_0, hfz21_1, hfz21_2⟩ := frz3_ BK347.out; obtain ⟨hcz22_0, hcz22_1, hcz22_2, hcz22_3⟩ := cells4_ BK348.out; obtain ⟨hfz22_0, hfz22_1, hfz22_2, hfz22_3⟩ := frz4_ BK348.out) | ((with_reducible refine gate_callee (f := 26) rfl ?_); refine goesL_ (some 8) rfl rfl Try.func26 (by kernel_rfl) rfl #[.agg #[.int .i64 a0_0, .int .i64 a0_1, .slice A0_2 l0_2.length c0_2], .int .i64 a1_0] rfl (by (try simp only [am_]); first | done | rfl) ?_; (with_reducible refine (impl_IsOpen.calls k a0_0 a0_1 _ _ l0_2 a1_0 true _ ?side1 ?side2 A3.out).mono ?_); (case side1 => exact (Kd.C_below HR0_2.out (below_up HB.out))); (case side2 => exact HC0_2.out); rintro e w23 ⟨rfl, hb⟩; refine ⟨_, rfl, ?_⟩; have n0_ := Aside0.mk (blk_below (blk_up BK347.out) hb); have n1_ := Aside0.mk (blk_below (blk_up BK348.out) hb); have n2_ := Aside0.mk (below_step (below_up HB.out) hb); replace BK347 := n0_; replace BK348 := n1_; replace HB := n2_; clear n0_ n1_ n2_; (try clear hb); (try clear hb2); (try clear hk); (try clear hi); obtain ⟨hcz24_0, hcz24_1, hcz24_2, hcz24_3⟩ := cells4_ BK348.out; obtain ⟨hfz24_0, hfz24_1, hfz24_2, hfz24_3⟩ := frz4_ BK348.out) | (go_at_call 83; (with_reducible refine (impl_AreCrew.calls k _ _ l1_2 true _ ?side1 ?side2 A5.out).mono ?_); (case side1 => exact (Kd.C_below HR1_2.out (below_up HB.out))); (case side2 => exact HC1_2.out); rintro e w25 ⟨rfl, hb⟩; have n0_ := Aside0.mk (blk_below (blk_up BK347.out) hb); have n1_ := Aside0.mk (blk_below (blk_up BK348.out) hb); have n2_ := Aside0.mk (below_step (below_up HB.out) hb); replace BK347 := n0_; replace BK348 := n1_; replace HB := n2_; clear n0_ n1_ n2_; (try clear hb); (try clear hb2); (try clear hk); (try clear hi); obtain ⟨hcz26_0, hcz26_1, hcz26_2, hcz26_3⟩ := cells4_ BK348.out; obtain ⟨hfz26_0, hfz26_1, hfz26_2, hfz26_3⟩ := frz4_ BK348.out) | (go_at_call 70; (with_reducible refine (impl_InRange.calls a1_1 0 10000 false _ A7.out).mono ?_); rintro e w' ⟨rfl, ⟨nd, rfl⟩⟩))
 go_ret
 exact ⟨by first | rfl | (simp [errW_none, errW_some] <;> rfl) | (simp [*, errW_none, errW_some] <;> rfl), below_up HB.out⟩

/-! ### impl_IsRule: function 84 -/
def impl_IsRule.f (a0_0 : Int) (a0_1 : Int) : Option (Bool) := (impl_InRange.f a0_1 1 10).bind fun t353 => (if t353 = true then ((impl_InRange.f a0_0 0 (wrap64 (a0_1 - 1))).bind fun t354 => (some t354)) else (some false))
set_option maxHeartbeats 8000000 in
set_option maxRecDepth 100000 in
theorem impl_IsRule.calls (a0_0 : Int) (a0_1 : Int) (r : Bool) (w : World) (h : impl_IsRule.f a0_0 a0_1 = some r) :
 Calls Try.prog 84 #[.agg #[.int .i64 a0_0, .int .i64 a0_1]] w fun e w' => e = .returned (.bool r) ∧ Below w.heap.size w w' := by
 have hu55 := Try.underlying55
 have HB := Aside0.mk (Below.refl w.heap.size w)
 have H : ((impl_InRange.f a0_1 1 10).bind fun t353 => (if t353 = true then ((impl_InRange.f a0_0 0 (wrap64 (a0_1 - 1))).bind fun t354 => (some t354)) else (some false))) = some r := h
 clear h
 replace H := Option.bind_eq_some_iff.mp H
 obtain ⟨t353, A20, H⟩ := H
 have A2 := Aside0.mk A20
 clear A20
 by_cases c3 : t353 = true
 rotate_left
 · replace c3 := Bool.eq_false_iff.mpr c3
   subst c3
   rw [if_neg (show ¬ (false = true) by decide)] at H
   obtain rfl := Option.some.inj H
   go_enter Try.func84, Try.ntmps84
   go_wp2_with (first | ((with_reducible refine gate_dst (N := 1) rfl ?_); refine box_event ?hg (N := 1) ?hd (cs := #[.int .i64 a0_0, .int .i64 a0_1]) (t := 55) ?hr ?_; (case hd => rfl); (case hg => rfl); (case hr => first | (go_simp; done) | (go_simp; rfl)); intro gb352 hg w7 hbox hb; have n0_ := Aside0.mk (below_step (below_up HB.out) hb); have n1_ := Aside0.mk (hbox); have n2_ := Aside0.mk (szle hg HB.out); have n3_ := Aside0.mk (szle hg HB.out); replace HB := n0_; have BK352 := n1_; have GW352 := n2_; have GE352 := n3_; clear n0_ n1_ n2_ n3_; clear hb hbox hg; obtain ⟨hcz8_0, hcz8_1⟩ := cells2_ BK352.out; obtain ⟨hfz8_0, hfz8_1⟩ := frz2_ BK352.out) | ((with_reducible refine gate_callee (f := 70) rfl ?_); refine goesL_ (some 5) rfl rfl Try.func70 (by kernel_rfl) rfl #[.int .i64 a0_1, .int .i64 1, .int .i64 10] rfl (by (try simp only [am_]); first | done | rfl) ?_; (with_reducible refine (impl_InRange.calls a0_1 1 10 false _ A2.out).mono ?_); rintro e w' ⟨rfl, ⟨nd, rfl⟩⟩; refine ⟨_, rfl, ?_⟩))
   go_ret
   exact ⟨by first | rfl | (simp [errW_none, errW_some] <;> rfl) | (simp [*, errW_none, errW_some] <;> rfl), below_up HB.out⟩
 subst c3
 rw [if_pos rfl] at H
 replace H := Option.bind_eq_some_iff.mp H
 obtain ⟨t354, A40, H⟩ := H
 have A4 := Aside0.mk A40
 clear A40
 obtain rfl := Option.some.inj H
 go_enter Try.func84, Try.ntmps84
 go_wp2_with (first | ((with_reducible refine gate_dst (N := 1) rfl ?_); refine box_event ?hg (N := 1) ?hd (cs := #[.int .i64 a0_0, .int .i64 a0_1]) (t := 55) ?hr ?_; (case hd => rfl); (case hg => rfl); (case hr => first | (go_simp; done) | (go_simp; rfl)); intro gb352 hg w5 hbox hb; have n0_ := Aside0.mk (below_step (below_up HB.out) hb); have n1_ := Aside0.mk (hbox); have n2_ := Aside0.mk (szle hg HB.out); have n3_ := Aside0.mk (szle hg HB.out); replace HB := n0_; have BK352 := n1_; have GW352 := n2_; have GE352 := n3_; clear n0_ n1_ n2_ n3_; clear hb hbox hg; obtain ⟨hcz6_0, hcz6_1⟩ := cells2_ BK352.out; obtain ⟨hfz6_0, hfz6_1⟩ := frz2_ BK352.out) | ((with_reducible refine gate_callee (f := 70) rfl ?_); refine goesL_ (some 5) rfl rfl Try.func70 (by kernel_rfl) rfl #[.int .i64 a0_1, .int .i64 1, .int .i64 10] rfl (by (try simp only [am_]); first | done | rfl) ?_; (with_reducible refine (impl_InRange.calls a0_1 1 10 true _ A2.out).mono ?_); rintro e w' ⟨rfl, ⟨nd, rfl⟩⟩; refine ⟨_, rfl, ?_⟩) | (go_at_call 70; (with_reducible refine (impl_InRange.calls a0_0 0 (wrap64 (a0_1 - 1)) t354 _ A4.out).mono ?_); rintro e w' ⟨rfl, ⟨nd, rfl⟩⟩))
 go_ret
 exact ⟨by first | rfl | (simp [errW_none, errW_some] <;> rfl) | (simp [*, errW_none, errW_some] <;> rfl), below_up HB.out⟩

/-! ### impl_CountStorms: function 92 -/
def impl_CountStorms.l0 : Nat → Int → List Bool → Int → Int → Option (Int)
 | 0, _, _, _, _ => none
 | k + 1, x3, x6, x7, x8 => if x8 < x7 then (if 0 ≤ x8 then (if x8 < (x6.length : Int) then (if rdOf false x6 x8 = true then (impl_CountStorms.l0 k (wrap64 (x3 + 1)) x6 x7 (wrap64 (x8 + 1))) else (impl_CountStorms.l0 k x3 x6 x7 (wrap64 (x8 + 1)))) else (none)) else (none)) else (some x3)
def impl_CountStorms.f (k : Nat) (l0 : List Bool) : Option (Int) := impl_CountStorms.l0 k 0 l0 (l0.length : Int) 0
theorem impl_CountStorms.mono_l : ∀ k, (∀ y0 y1 y2 y3, LeO (impl_CountStorms.l0 k y0 y1 y2 y3) (impl_CountStorms.l0 (k + 1) y0 y1 y2 y3))
 | 0 => fun _ _ _ _ r h => by simp [impl_CountStorms.l0] at h
 | k + 1 => by
  have ih0 := impl_CountStorms.mono_l k
  · intro y0 y1 y2 y3
    unfold impl_CountStorms.l0
    repeat' first
    | (with_reducible exact ih0 _ _ _ _)
    | (with_reducible exact LeO.refl _)
    | (with_reducible exact LeO.none _)
    | (with_reducible refine LeO.ite ?_ ?_)
    | (with_reducible refine LeO.bind ?_ (fun _ => ?_))
    | exact ih0 _ _ _ _
    | exact LeO.none _
    | refine LeO.ite ?_ ?_
    | refine LeO.bind ?_ (fun _ => ?_)
theorem impl_CountStorms.mono : ∀ a0 k, LeO (impl_CountStorms.f k a0) (impl_CountStorms.f (k + 1) a0) := by
 intro a0 k
 have ih0 := impl_CountStorms.mono_l k
 unfold impl_CountStorms.f
 repeat' first
  | (with_reducible exact ih0 _ _ _ _)
  | (with_reducible exact LeO.refl _)
  | (with_reducible exact LeO.none _)
  | (with_reducible refine LeO.ite ?_ ?_)
  | (with_reducible refine LeO.bind ?_ (fun _ => ?_))
  | exact ih0 _ _ _ _
  | exact LeO.none _
  | refine LeO.ite ?_ ?_
  | refine LeO.bind ?_ (fun _ => ?_)
set_option maxHeartbeats 8000000 in
set_option maxRecDepth 100000 in
theorem impl_CountStorms.calls (k : Nat) (A0 : Option Addr) (c0 : Nat) (l0 : List Bool) (r : Int) (w : World) (hr0 : Kd.C Kd.bool w A0 l0.length l0) (hc0 : l0.length ≤ c0) (h : impl_CountStorms.f k l0 = some r) :
 Calls Try.prog 92 #[.slice A0 l0.length c0] w fun e w' => e = .returned (.int .i64 r) ∧ Drawn0 w w' := by
 have HR0 := Aside0.mk hr0
 have HC0 := Aside0.mk hc0
 clear hr0 hc0
 have H : (impl_CountStorms.l0 k 0 l0 (l0.length : Int) 0) = some r := h
 clear h
 have H' := Aside0.mk H
 clear H
 go_enter Try.func92, Try.ntmps92
 go_wp2
 go_loopg [3, 8] k (fun kq v3 v8 w' => ∃ (x3_1 : Int) (x8_1 : Int), v3 = .int .i64 x3_1 ∧ v8 = .int .i64 x8_1 ∧ Aside0 (impl_CountStorms.l0 kq x3_1 l0 (l0.length : Int) x8_1 = some r) ∧ Aside0 (kq ≤ k) ∧ Drawn0 w w')
 case atStart => exact ⟨(0), (0), (by first | rfl | (simp; done) | (simp [*]; done)), (by first | rfl | (simp; done) | (simp [*]; done)), H', ⟨Nat.le_refl _⟩, by repeat (first | exact Drawn0.refl _ | apply Drawn0.step)⟩
 case round =>
  clear H'
  obtain ⟨x3_1, x8_1, rfl, rfl, HA, HK1, ⟨m1, rfl⟩⟩ := hrel
  cases gk with
  | zero => exact absurd HA.out (by simp [impl_CountStorms.l0])
  | succ k1 =>
   have H := HA.out
   clear HA
   simp only [impl_CountStorms.l0] at H
   by_cases c2 : x8_1 < (l0.length : Int)
   rotate_left
   · rw [if_neg c2] at H
     have c2b0 : decide (x8_1 < (l0.length : Int)) = false := decide_eq_false c2
     clear c2
     obtain rfl := Option.some.inj H
     go_wp2
     go_ret
     exact ⟨by first | rfl | (simp; done) | (simp [*]; done), by repeat (first | exact Drawn0.refl _ | apply Drawn0.step)⟩
   rw [if_pos c2] at H
   have c2b0 : decide (x8_1 < (l0.length : Int)) = true := decide_eq_true c2
   clear c2
   by_cases c3 : 0 ≤ x8_1
   rotate_left
   · rw [if_neg c3] at H
     exact absurd H (by simp)
   rw [if_pos c3] at H
   have c3b0 : decide (0 ≤ x8_1) = true := decide_eq_true c3
   clear c3
   by_cases c4 : x8_1 < (l0.length : Int)
   rotate_left
   · rw [if_neg c4] at H
     exact absurd H (by simp)
   rw [if_pos c4] at H
   have c4b0 : decide (x8_1 < (l0.length : Int)) = true := decide_eq_true c4
   clear c4
   obtain ⟨bq5, hbq5⟩ : ∃ b_ : Bool, b_ = (rdOf false l0 x8_1) := ⟨_, rfl⟩
   replace H : (if bq5 = true then (impl_CountStorms.l0 k1 (wrap64 (x3_1 + 1)) l0 (l0.length : Int) (wrap64 (x8_1 + 1))) else (impl_CountStorms.l0 k1 x3_1 l0 (l0.length : Int) (wrap64 (x8_1 + 1)))) = some r := by rw [← hbq5] at H; exact H
   have Nbq5 := Aside0.mk hbq5
   clear hbq5
   by_cases c6 : bq5 = true
   · subst c6
     rw [if_pos rfl] at H
     have H' := Aside0.mk H
     clear H
     have p355 : 0 ≤ (x8_1 : Int) := of_decide_eq_true (by first | (with_reducible assumption) | assumption)
     have q355 : x8_1 < (l0.length : Int) := of_decide_eq_true (by first | (with_reducible assumption) | assumption)
     obtain ⟨ad355, e355, hx355_0⟩ := Kd.at_bool HR0.out x8_1 p355 q355
     (try rw [← Nbq5.out] at hx355_0)
     cases e355
     replace p355 := eq_true p355
     replace q355 := eq_true q355
     go_wp2
     go_roundg k1
     case measure => have := HK1.out; omega
     case rel => exact ⟨(wrap64 (x3_1 + 1)), (wrap64 (x8_1 + 1)), (by first | rfl | (simp; done) | (simp [*]; done)), (by first | rfl | (simp; done) | (simp [*]; done)), H', ⟨by have := HK1.out; omega⟩, by repeat (first | exact Drawn0.refl _ | apply Drawn0.step)⟩
   replace c6 := Bool.eq_false_iff.mpr c6
   subst c6
   rw [if_neg (show ¬ (false = true) by decide)] at H
   have H' := Aside0.mk H
   clear H
   have p355 : 0 ≤ (x8_1 : Int) := of_decide_eq_true (by first | (with_reducible assumption) | assumption)
   have q355 : x8_1 < (l0.length : Int) := of_decide_eq_true (by first | (with_reducible assumption) | assumption)
   obtain ⟨ad355, e355, hx355_0⟩ := Kd.at_bool HR0.out x8_1 p355 q355
   (try rw [← Nbq5.out] at hx355_0)
   cases e355
   replace p355 := eq_true p355
   replace q355 := eq_true q355
   go_wp2
   go_roundg k1
   case measure => have := HK1.out; omega
   case rel => exact ⟨(x3_1), (wrap64 (x8_1 + 1)), (by first | rfl | (simp; done) | (simp [*]; done)), (by first | rfl | (simp; done) | (simp [*]; done)), H', ⟨by have := HK1.out; omega⟩, by repeat (first | exact Drawn0.refl _ | apply Drawn0.step)⟩

/-! ### impl_last: function 93 -/
def impl_last.f (l0 : List Bool) (a1 : Int) : Option (List Bool) := if 0 ≤ (mx (wrap64 ((l0.length : Int) - a1)) 0) then (if (mx (wrap64 ((l0.length : Int) - a1)) 0) ≤ (l0.length : Int) then (some (l0.drop ((mx (wrap64 ((l0.length : Int) - a1)) 0) : Int).toNat)) else (none)) else (none)
set_option maxHeartbeats 8000000 in
set_option maxRecDepth 100000 in
theorem impl_last.calls (P0_ : Nat → Prop) (A0 : Option Addr) (c0 : Nat) (l0 : List Bool) (a1 : Int) (r : List Bool) (w : World) (hs0 : Kd.V Kd.bool 4 w w.heap.size (fun k_ => P0_ k_) (.slice A0 l0.length c0) l0) (h : impl_last.f l0 a1 = some r) :
 Calls Try.prog 93 #[.slice A0 l0.length c0, .int .i64 a1] w fun e w' => ∃ v0_ : Value, e = .returned (v0_) ∧ Kd.V Kd.bool 4 w' w.heap.size (fun k_ => (P0_ k_ ∨ w.heap.size ≤ k_)) v0_ r ∧ Below w.heap.size w w' := by
 have HO0 := Aside0.mk (show Kd.V Kd.bool 4 w w.heap.size (fun k_ => (P0_ k_ ∨ w.heap.size ≤ k_)) (.slice A0 l0.length c0) l0 from Kd.V_mono hs0 (fun k_ hk => .inl hk))
 have HB := Aside0.mk (Below.refl w.heap.size w)
 have H : (if 0 ≤ (mx (wrap64 ((l0.length : Int) - a1)) 0) then (if (mx (wrap64 ((l0.length : Int) - a1)) 0) ≤ (l0.length : Int) then (some (l0.drop ((mx (wrap64 ((l0.length : Int) - a1)) 0) : Int).toNat)) else (none)) else (none)) = some r := h
 clear h
 obtain ⟨ji3, hji3⟩ : ∃ j_ : Int, (mx (wrap64 ((l0.length : Int) - a1)) 0) = j_ := ⟨_, rfl⟩
 replace H : (if 0 ≤ (ji3) then (if (ji3) ≤ (l0.length : Int) then (some (l0.drop ((ji3) : Int).toNat)) else (none)) else (none)) = some r := by first | (rw [hji3] at H; exact H) | (simp only [hji3] at H ⊢; exact H)
 (try (have hji3l : 0 ≤ ji3 := by (rw [← hji3]; unfold mx; (repeat' split) <;> omega)))
 (try (have hji3m : 0 ≤ ji3 := by omega))
 have hji3_ : (if (wrap64 ((l0.length : Int) - a1)) < 0 then 0 else (wrap64 ((l0.length : Int) - a1))) = ji3 := hji3
 by_cases c4 : 0 ≤ (ji3)
 rotate_left
 · rw [if_neg c4] at H
   exact absurd H (by simp)
 rw [if_pos c4] at H
 have c4b0 := eq_true c4
 have c4b1 : decide (0 ≤ (ji3)) = true := decide_eq_true c4
 clear c4
 by_cases c5 : (ji3) ≤ (l0.length : Int)
 rotate_left
 · rw [if_neg c5] at H
   exact absurd H (by simp)
 rw [if_pos c5] at H
 have c5b0 := eq_true c5
 have c5b1 : decide ((ji3) ≤ (l0.length : Int)) = true := decide_eq_true c5
 clear c5
 obtain ⟨y356, hy356⟩ : ∃ y_ : List Bool, y_ = (l0.drop ((ji3) : Int).toNat) := ⟨_, rfl⟩
 replace H : (some y356) = some r := by first | (rw [hy356]; with_reducible exact H) | (have H2_ := (Option.bind_some _ _).symm.trans H; rw [hy356]; with_reducible exact H2_) | (have H2_ := (Option.bind_some _ _).symm.trans H; with_reducible exact H2_) | with_reducible exact H | (rw [hy356]; exact H) | exact H
 have Ny356 := Aside0.mk hy356
 clear hy356
 obtain rfl := Option.some.inj H
 have q6 : ((ji3) : Int) ≤ ((l0.length : Int) : Int) := of_decide_eq_true (by first | (with_reducible assumption) | assumption)
 obtain ⟨i06, hi06, _, hsz6, _⟩ := info_parts info4
 have hroom6 : l0.length ≤ c0 := (Kd.V_reads' HO0.out).2.1
 have hC6 : Kd.F Kd.bool _ _ A0 l0.length l0 := (Kd.V_at (base := w.heap.size) HO0.out).2.2
 have q06 : (0 : Int) ≤ ((ji3) : Int) := of_decide_eq_true (by first | (with_reducible assumption) | assumption)
 have hcut6 := cut_from (P := Try.prog) 50 4 .i64 Try.underlying50 hi06 1 hsz6 A0 l0.length c0 (ji3) q06 q6
 have hr6 := Kd.F_cut (m := ((ji3) : Int).toNat) (c := c0) hC6 (by omega) hroom6
 obtain ⟨A6, hA6⟩ : ∃ A1, A1 = (if c0 = ((ji3) : Int).toNat then A0 else (A0 : Option Addr).map (·.add (((ji3) : Int).toNat * 1))) := ⟨_, rfl⟩
 obtain ⟨c6, hc6⟩ : ∃ c1, c1 = c0 - ((ji3) : Int).toNat := ⟨_, rfl⟩
 have hy6 : y356.length = l0.length - ((ji3) : Int).toNat := (by rw [Ny356.out, List.length_drop] <;> omega)
 rw [show (l0).drop ((ji3) : Int).toNat = y356 from Ny356.out.symm] at hr6
 replace hr6 : Kd.F Kd.bool _ _ A6 y356.length y356 := (by rw [hA6]; exact hr6)
 rw [← hy6, ← hA6, ← hc6] at hcut6
 have HO360 := Aside0.mk (show Kd.V Kd.bool 4 _ w.heap.size _ (.slice A6 y356.length c6) y356 from Kd.V_mk (by rw [hy6, hc6]; exact Nat.sub_le_sub_right hroom6 _) hr6)
 have HC360 := Aside0.mk (show y356.length ≤ c6 from by rw [hy6, hc6]; exact Nat.sub_le_sub_right hroom6 _)
 clear hr6 hC6 hroom6 hi06 hsz6 hc6
 have KY6 := Aside0.mk hy6
 have KA6 := Aside0.mk hA6
 clear hy6 hA6
 replace q6 := eq_true q6
 go_enter Try.func93, Try.ntmps93
 go_wp2
 go_ret
 exact ⟨_, by first | rfl | (simp [errW_none, errW_some] <;> rfl) | (simp only [← hji3]; first | rfl | (simp [errW_none, errW_some] <;> rfl)) | (simp [*, errW_none, errW_some] <;> rfl), by (with_reducible repeat (first | apply Kd.V_alloc | apply Kd.V_drewN | apply Kd.V_drew)); exact HO360.out, below_up HB.out⟩

/-! ### impl_MayStorm: function 85 -/
def impl_MayStorm.f (k : Nat) (a0_0 : Int) (a0_1 : Int) (l1 : List Bool) : Option (Bool) := (impl_IsRule.f a0_0 a0_1).bind fun t362 => (if t362 = true then ((impl_last.f l1 (wrap64 (a0_1 - 1))).bind fun t363 => ((impl_CountStorms.f k t363).bind fun t366 => (some (decide (t366 < a0_0))))) else (some false))
theorem impl_MayStorm.mono : ∀ a0 a1 a2 k, LeO (impl_MayStorm.f k a0 a1 a2) (impl_MayStorm.f (k + 1) a0 a1 a2) := by
 intro a0 a1 a2 k
 unfold impl_MayStorm.f
 repeat' first
  | (with_reducible exact impl_CountStorms.mono _ _)
  | (with_reducible exact LeO.refl _)
  | (with_reducible exact LeO.none _)
  | (with_reducible refine LeO.ite ?_ ?_)
  | (with_reducible refine LeO.bind ?_ (fun _ => ?_))
  | exact impl_CountStorms.mono _ _
  | exact LeO.none _
  | refine LeO.ite ?_ ?_
  | refine LeO.bind ?_ (fun _ => ?_)
def impl_MayStorm.T1 : Bool × List (List Nat × List Nat) := (true, [([], []), ([0], [0]), ([1, 1], [1]), ([2], [2]), ([2], [2]), ([4, 2], [2, 4]), ([5, 2], [2, 5]), ([3, 6, 2, 2], [2, 3, 6]), ([7, 7, 2], [2, 7]), ([2], [2]), ([9, 2], [2, 9]), ([8, 10, 2], [2, 8, 10]), ([2, 11], [2, 11]), ([12, 8, 0, 1, 2, 3, 4, 5, 6, 7, 8, 9, 10, 11, 12], [12])])
def impl_MayStorm.B1 : List Nat := [0, 1, 3, 7, 7, 23, 55, 127, 255, 7, 519, 2047, 4095, 8191]
theorem impl_MayStorm.tab1 : rtab .any (opsOf Try.f85 1) = impl_MayStorm.T1 := by kernel_rfl
theorem impl_MayStorm.bits1 : waitsOk impl_MayStorm.T1.2 impl_MayStorm.B1 = true := by kernel_rfl
set_option maxHeartbeats 8000000 in
set_option maxRecDepth 100000 in
theorem impl_MayStorm.calls (k : Nat) (a0_0 : Int) (a0_1 : Int) (A1 : Option Addr) (c1 : Nat) (l1 : List Bool) (r : Bool) (w : World) (hr1 : Kd.C Kd.bool w A1 l1.length l1) (hc1 : l1.length ≤ c1) (h : impl_MayStorm.f k a0_0 a0_1 l1 = some r) :
 Calls Try.prog 85 #[.agg #[.int .i64 a0_0, .int .i64 a0_1], .slice A1 l1.length c1] w fun e w' => e = .returned (.bool r) ∧ Below w.heap.size w w' := by
 have hu55 := Try.underlying55
 have HR1 := Aside0.mk hr1
 have HC1 := Aside0.mk hc1
 clear hr1 hc1
 have HB := Aside0.mk (Below.refl w.heap.size w)
 have H : ((impl_IsRule.f a0_0 a0_1).bind fun t362 => (if t362 = true then ((impl_last.f l1 (wrap64 (a0_1 - 1))).bind fun t363 => ((impl_CountStorms.f k t363).bind fun t366 => (some (decide (t366 < a0_0))))) else (some false))) = some r := h
 clear h
 replace H := Option.bind_eq_some_iff.mp H
 obtain ⟨t362, A30, H⟩ := H
 have A3 := Aside0.mk A30
 clear A30
 by_cases c4 : t362 = true
 rotate_left
 · replace c4 := Bool.eq_false_iff.mpr c4
   subst c4
   rw [if_neg (show ¬ (false = true) by decide)] at H
   obtain rfl := Option.some.inj H
   go_enter Try.func85, Try.ntmps85
   try go_wp2_with (first | ((with_reducible refine gate_dst (N := 2) rfl ?_); refine box_event ?hg (N := 2) ?hd (cs := #[.int .i64 a0_0, .int .i64 a0_1]) (t := 55) ?hr ?_; (case hd => rfl); (case hg => rfl); (case hr => first | (go_simp; done) | (go_simp; rfl)); intro gb361 hg w12 hbox hb; have n0_ := Aside0.mk (below_step (below_up HB.out) hb); have n1_ := Aside0.mk (hbox); have n2_ := Aside0.mk (szle hg HB.out); have n3_ := Aside0.mk (szle hg HB.out); replace HB := n0_; have BK361 := n1_; have GW361 := n2_; have GE361 := n3_; clear n0_ n1_ n2_ n3_; clear hb hbox hg))
   have n0_ := Aside0.mk (blk_drew BK361.out)
   have n1_ := Aside0.mk (below_drew1 HB.out)
   clear BK361
   clear HB
   have BK361 := n0_
   have HB := n1_
   clear n0_ n1_
   refine start_ (n := 14) (S := fun w' => w'.cell? ⟨gb361, 0, none⟩ = some (.int .i64 a0_0) ∧ w'.cell? ⟨gb361, 1, none⟩ = some (.int .i64 a0_1)) (ds := []) (ar 14 0 []) (by kernel_rfl) rfl rfl ⟨(blk_cell BK361.out 0).trans rfl, (blk_cell BK361.out 1).trans rfl⟩ (fun hHeld => ?_); refine with_tabW impl_MayStorm.tab1 impl_MayStorm.bits1 (fun HT_ HW_ => ?_)
   generalize w12.drew = w13 at BK361 HB hHeld ⊢
   refine tk_ (i := 0) (N := 5) (v := ?_) (a' := ?_) (ar 14 1 []) rfl rfl (take_ofW HT_.out HW_.out (by kernel_rfl)) ?_ hHeld ?_ ?_
   rotate_left
   · rintro w' ⟨s0, s1⟩
     go_simp
     with_reducible rfl
   rotate_left
   · simp only [puts_]
     rfl
   refine one_ (i := 1) (N := some 6) (ar 14 2 []) rfl rfl (one_of HT_.out (by kernel_rfl)) (by decide) (fun K hK => ?_)
   refine goes_ Try.func84 (by kernel_rfl) rfl #[.agg #[.int .i64 a0_0, .int .i64 a0_1]] (by rfl) rfl rfl (by (try simp only [am_]); first | done | rfl) ?_
   with_reducible refine (impl_IsRule.calls a0_0 a0_1 false _ A3.out).mono ?_
   rintro e w14 ⟨rfl, hb⟩
   refine ⟨_, rfl, ?_⟩
   have n0_ := Aside0.mk (blk_below (blk_up BK361.out) hb)
   have n1_ := Aside0.mk (below_step (below_up HB.out) hb)
   clear BK361
   clear HB
   have BK361 := n0_
   have HB := n1_
   clear n0_ n1_
   (try clear hb)
   (try clear hb2)
   (try clear hk)
   (try clear hi)
   refine hK.out _ _ ⟨(blk_cell BK361.out 0).trans rfl, (blk_cell BK361.out 1).trans rfl⟩ (fun hHeld => ?_)
   clear hK K
   refine norm_ (a' := ?_) ?_ ?_
   rotate_left
   · show Act.put _ (some 6) _ = _
     simp only [puts_]
     rfl
   refine pu_ (i := 2) (N := 7) (v := ?_) (a' := ?_) (ar 14 3 []) rfl rfl (any_of HT_.out (by kernel_rfl)) ?_ ?_ ?_
   rotate_left
   · intro w'
     go_simp
     with_reducible rfl
   rotate_left
   · simp only [puts_]
     rfl
   refine pn_ (i := 3) (N := 8) (a' := ?_) (ar 14 4 []) rfl rfl (any_of HT_.out (by kernel_rfl)) ?_ ?_
   rotate_left
   · simp only [puts_]
     rfl
   refine pn_ (i := 4) (N := 9) (a' := ?_) (ar 14 5 []) rfl rfl (any_of HT_.out (by kernel_rfl)) ?_ ?_
   rotate_left
   · simp only [puts_]
     rfl
   refine pn_ (i := 5) (N := 10) (a' := ?_) (ar 14 6 []) rfl rfl (any_of HT_.out (by kernel_rfl)) ?_ ?_
   rotate_left
   · simp only [puts_]
     rfl
   refine pn_ (i := 6) (N := 11) (a' := ?_) (ar 14 7 []) rfl rfl (any_of HT_.out (by kernel_rfl)) ?_ ?_
   rotate_left
   · simp only [puts_]
     rfl
   refine pn_ (i := 7) (N := 12) (a' := ?_) (ar 14 8 []) rfl rfl (any_of HT_.out (by kernel_rfl)) ?_ ?_
   rotate_left
   · simp only [puts_]
     rfl
   refine pn_ (i := 8) (N := 13) (a' := ?_) (ar 14 9 []) rfl rfl (any_of HT_.out (by kernel_rfl)) ?_ ?_
   rotate_left
   · simp only [puts_]
     rfl
   refine pn_ (i := 9) (N := 14) (a' := ?_) (ar 14 10 []) rfl rfl (any_of HT_.out (by kernel_rfl)) ?_ ?_
   rotate_left
   · simp only [puts_]
     rfl
   refine pn_ (i := 10) (N := 15) (a' := ?_) (ar 14 11 []) rfl rfl (any_of HT_.out (by kernel_rfl)) ?_ ?_
   rotate_left
   · simp only [puts_]
     rfl
   refine pn_ (i := 11) (N := 16) (a' := ?_) (ar 14 12 []) rfl rfl (any_of HT_.out (by kernel_rfl)) ?_ ?_
   rotate_left
   · simp only [puts_]
     rfl
   refine pu_ (i := 12) (N := 17) (v := ?_) (a' := ?_) (ar 14 13 []) rfl rfl (any_of HT_.out (by kernel_rfl)) ?_ ?_ ?_
   rotate_left
   · intro w'
     go_simp
     with_reducible rfl
   rotate_left
   · simp only [puts_]
     rfl
   refine pu_ (i := 13) (N := 4) (v := ?_) (a' := ?_) (ar 14 14 []) rfl rfl (any_of HT_.out (by kernel_rfl)) ?_ ?_ ?_
   rotate_left
   · intro w'
     go_simp
     with_reducible rfl
   rotate_left
   · simp only [puts_]
     rfl
   refine done_ (done_of HT_.out (by kernel_rfl)) ?_
   try go_wp2
   go_ret
   exact ⟨by first | rfl | (simp [errW_none, errW_some] <;> rfl) | (simp [*, errW_none, errW_some] <;> rfl), below_up HB.out⟩
 subst c4
 rw [if_pos rfl] at H
 replace H := Option.bind_eq_some_iff.mp H
 obtain ⟨t363, A50, H⟩ := H
 have A5 := Aside0.mk A50
 clear A50
 replace H := Option.bind_eq_some_iff.mp H
 obtain ⟨t366, A60, H⟩ := H
 have A6 := Aside0.mk A60
 clear A60
 obtain rfl := Option.some.inj H
 go_enter Try.func85, Try.ntmps85
 try go_wp2_with (first | ((with_reducible refine gate_dst (N := 2) rfl ?_); refine box_event ?hg (N := 2) ?hd (cs := #[.int .i64 a0_0, .int .i64 a0_1]) (t := 55) ?hr ?_; (case hd => rfl); (case hg => rfl); (case hr => first | (go_simp; done) | (go_simp; rfl)); intro gb361 hg w7 hbox hb; have n0_ := Aside0.mk (below_step (below_up HB.out) hb); have n1_ := Aside0.mk (hbox); have n2_ := Aside0.mk (szle hg HB.out); have n3_ := Aside0.mk (szle hg HB.out); replace HB := n0_; have BK361 := n1_; have GW361 := n2_; have GE361 := n3_; clear n0_ n1_ n2_ n3_; clear hb hbox hg))
 have n0_ := Aside0.mk (blk_drew BK361.out)
 have n1_ := Aside0.mk (below_drew1 HB.out)
 clear BK361
 clear HB
 have BK361 := n0_
 have HB := n1_
 clear n0_ n1_
 refine start_ (n := 14) (S := fun w' => w'.cell? ⟨gb361, 0, none⟩ = some (.int .i64 a0_0) ∧ w'.cell? ⟨gb361, 1, none⟩ = some (.int .i64 a0_1)) (ds := []) (ar 14 0 []) (by kernel_rfl) rfl rfl ⟨(blk_cell BK361.out 0).trans rfl, (blk_cell BK361.out 1).trans rfl⟩ (fun hHeld => ?_); refine with_tabW impl_MayStorm.tab1 impl_MayStorm.bits1 (fun HT_ HW_ => ?_)
 generalize w7.drew = w8 at BK361 HB hHeld ⊢
 refine tk_ (i := 0) (N := 5) (v := ?_) (a' := ?_) (ar 14 1 []) rfl rfl (take_ofW HT_.out HW_.out (by kernel_rfl)) ?_ hHeld ?_ ?_
 rotate_left
 · rintro w' ⟨s0, s1⟩
   go_simp
   with_reducible rfl
 rotate_left
 · simp only [puts_]
   rfl
 refine one_ (i := 1) (N := some 6) (ar 14 2 []) rfl rfl (one_of HT_.out (by kernel_rfl)) (by decide) (fun K hK => ?_)
 refine goes_ Try.func84 (by kernel_rfl) rfl #[.agg #[.int .i64 a0_0, .int .i64 a0_1]] (by rfl) rfl rfl (by (try simp only [am_]); first | done | rfl) ?_
 with_reducible refine (impl_IsRule.calls a0_0 a0_1 true _ A3.out).mono ?_
 rintro e w9 ⟨rfl, hb⟩
 refine ⟨_, rfl, ?_⟩
 have n0_ := Aside0.mk (blk_below (blk_up BK361.out) hb)
 have n1_ := Aside0.mk (below_step (below_up HB.out) hb)
 clear BK361
 clear HB
 have BK361 := n0_
 have HB := n1_
 clear n0_ n1_
 (try clear hb)
 (try clear hb2)
 (try clear hk)
 (try clear hi)
 refine hK.out _ _ ⟨(blk_cell BK361.out 0).trans rfl, (blk_cell BK361.out 1).trans rfl⟩ (fun hHeld => ?_)
 clear hK K
 refine norm_ (a' := ?_) ?_ ?_
 rotate_left
 · show Act.put _ (some 6) _ = _
   simp only [puts_]
   rfl
 refine pu_ (i := 2) (N := 7) (v := ?_) (a' := ?_) (ar 14 3 []) rfl rfl (any_of HT_.out (by kernel_rfl)) ?_ ?_ ?_
 rotate_left
 · intro w'
   go_simp
   with_reducible rfl
 rotate_left
 · simp only [puts_]
   rfl
 refine pu_ (i := 3) (N := 8) (v := ?_) (a' := ?_) (ar 14 4 []) rfl rfl (any_of HT_.out (by kernel_rfl)) ?_ ?_ ?_
 rotate_left
 · intro w'
   go_simp
   with_reducible rfl
 rotate_left
 · simp only [puts_]
   rfl
 refine pu_ (i := 4) (N := 9) (v := ?_) (a' := ?_) (ar 14 5 []) rfl rfl (any_of HT_.out (by kernel_rfl)) ?_ ?_ ?_
 rotate_left
 · intro w'
   go_simp
   with_reducible rfl
 rotate_left
 · simp only [puts_]
   rfl
 refine pu_ (i := 9) (N := 14) (v := ?_) (a' := ?_) (ar 14 10 [5, 6, 7, 8]) rfl rfl (any_of HT_.out (by kernel_rfl)) ?_ ?_ ?_
 rotate_left
 · intro w'
   go_simp
   with_reducible rfl
 rotate_left
 · simp only [puts_]
   rfl
 refine tk_ (i := 5) (N := 10) (v := ?_) (a' := ?_) (ar 14 10 [6, 7, 8]) rfl rfl (take_ofW HT_.out HW_.out (by kernel_rfl)) ?_ hHeld ?_ ?_
 rotate_left
 · rintro w' ⟨s0, s1⟩
   go_simp
   with_reducible rfl
 rotate_left
 · simp only [puts_]
   rfl
 refine pu_ (i := 6) (N := 11) (v := ?_) (a' := ?_) (ar 14 10 [7, 8]) rfl rfl (any_of HT_.out (by kernel_rfl)) ?_ ?_ ?_
 rotate_left
 · intro w'
   go_simp
   with_reducible rfl
 rotate_left
 · simp only [puts_]
   rfl
 refine tk_ (i := 10) (N := 15) (v := ?_) (a' := ?_) (ar 14 11 [7, 8]) rfl rfl (take_ofW HT_.out HW_.out (by kernel_rfl)) ?_ hHeld ?_ ?_
 rotate_left
 · rintro w' ⟨s0, s1⟩
   go_simp
   with_reducible rfl
 rotate_left
 · simp only [puts_]
   rfl
 refine one_ (i := 7) (N := some 12) (ar 14 11 [8]) rfl rfl (one_of HT_.out (by kernel_rfl)) (by decide) (fun K hK => ?_)
 refine goes_ Try.func93 (by kernel_rfl) rfl #[.slice A1 l1.length c1, .int .i64 (wrap64 (a0_1 - 1))] (by rfl) rfl rfl (by (try simp only [am_]); first | done | rfl) ?_
 with_reducible refine (impl_last.calls (fun k_ => k_ < w.heap.size) _ _ l1 (wrap64 (a0_1 - 1)) t363 _ ?side1 A5.out).mono ?_
 (case side1 => exact Kd.V_mk HC1.out (Kd.F_below (Kd.C_F Kd.heap_bool HR1.out) (below_up HB.out)))
 rintro e w10 ⟨v364, rfl, ho0, hb⟩
 refine ⟨_, rfl, ?_⟩
 have n0_ := Aside0.mk (Kd.V_lower (Kd.V_mono (ok' := fun k_ => k_ ≠ gb361) ho0 (fun k_ hk_ => Or.elim hk_ (fun hs_ => fun e_ => Nat.not_le.2 hs_ (by rw [e_]; exact GW361.out)) (fun hn_ => (Kd.freshB (g := gb361) (o := .cells #[.int .i64 a0_0, .int .i64 a0_1] 55 (0, 0)) (by (with_reducible repeat (first | refine blk_drewN ?_ _ | refine blk_drew ?_ | refine blk_alloc ?_ _)); exact BK361.out) k_ hn_)))) (below_size (below_up HB.out)))
 have n1_ := Aside0.mk (blk_below (blk_up BK361.out) hb)
 have n2_ := Aside0.mk (below_step (below_up HB.out) hb)
 clear BK361
 clear HB
 have HO365 := n0_
 have BK361 := n1_
 have HB := n2_
 clear n0_ n1_ n2_
 (try clear hb)
 (try clear hb2)
 (try clear hk)
 (try clear hi)
 (try clear ho0)
 obtain ⟨Ao11, co11, eo11⟩ := Kd.V_slice HO365.out
 (first | subst eo11 | (injection eo11 with f1_ f2_ f3_; have f4_ := f1_.symm; have f5_ := f3_.symm; clear f1_ f2_ f3_; subst f4_; subst f5_))
 refine hK.out _ _ ⟨(blk_cell BK361.out 0).trans rfl, (blk_cell BK361.out 1).trans rfl⟩ (fun hHeld => ?_)
 clear hK K
 refine norm_ (a' := ?_) ?_ ?_
 rotate_left
 · show Act.put _ (some 12) _ = _
   simp only [puts_]
   rfl
 refine one_ (i := 8) (N := some 13) (ar 14 11 []) rfl rfl (one_of HT_.out (by kernel_rfl)) (by decide) (fun K hK => ?_)
 refine goes_ Try.func92 (by kernel_rfl) rfl #[.slice Ao11 t363.length co11] (by rfl) rfl rfl (by (try simp only [am_]); first | done | rfl) ?_
 with_reducible refine (impl_CountStorms.calls k _ _ t363 t366 _ ?side1 ?side2 A6.out).mono ?_
 (case side1 => exact Kd.C_up ((Kd.V_reads' HO365.out).2.2))
 (case side2 => exact (Kd.V_reads' HO365.out).2.1)
 rintro e w' ⟨rfl, ⟨nd, rfl⟩⟩
 refine ⟨_, rfl, ?_⟩
 refine hK.out _ _ ⟨(blk_cell BK361.out 0).trans rfl, (blk_cell BK361.out 1).trans rfl⟩ (fun hHeld => ?_)
 clear hK K
 refine norm_ (a' := ?_) ?_ ?_
 rotate_left
 · show Act.put _ (some 13) _ = _
   simp only [puts_]
   rfl
 refine pu_ (i := 11) (N := 16) (v := ?_) (a' := ?_) (ar 14 12 []) rfl rfl (any_of HT_.out (by kernel_rfl)) ?_ ?_ ?_
 rotate_left
 · intro w'
   go_simp
   with_reducible rfl
 rotate_left
 · simp only [puts_]
   rfl
 refine pu_ (i := 12) (N := 17) (v := ?_) (a' := ?_) (ar 14 13 []) rfl rfl (any_of HT_.out (by kernel_rfl)) ?_ ?_ ?_
 rotate_left
 · intro w'
   go_simp
   with_reducible rfl
 rotate_left
 · simp only [puts_]
   rfl
 refine pu_ (i := 13) (N := 4) (v := ?_) (a' := ?_) (ar 14 14 []) rfl rfl (any_of HT_.out (by kernel_rfl)) ?_ ?_ ?_
 rotate_left
 · intro w'
   go_simp
   with_reducible rfl
 rotate_left
 · simp only [puts_]
   rfl
 refine done_ (done_of HT_.out (by kernel_rfl)) ?_
 try go_wp2
 go_ret
 exact ⟨by first | rfl | (simp [errW_none, errW_some] <;> rfl) | (simp [*, errW_none, errW_some] <;> rfl), below_up HB.out⟩

/-! ### impl_AddDay: function 86 -/
def impl_AddDay.f (l0 : List Bool) (a1 : Bool) : Option (List Bool) := (some (([] : List Bool) : List Bool)).bind fun y367 => (if y367.length + l0.length < 140737488355328 then ((some (y367 ++ l0 : List Bool)).bind fun y370 => (if y370.length < 140737488355328 then ((some (([] : List Bool) : List Bool)).bind fun y376 => ((impl_last.f (y370 ++ [a1]) 10).bind fun t379 => (if y376.length + t379.length < 140737488355328 then (some (y376 ++ t379)) else (none)))) else (none))) else (none))
set_option maxHeartbeats 8000000 in
set_option maxRecDepth 100000 in
theorem impl_AddDay.calls (A0 : Option Addr) (c0 : Nat) (l0 : List Bool) (a1 : Bool) (r : List Bool) (w : World) (hr0 : Kd.C Kd.bool w A0 l0.length l0) (hc0 : l0.length ≤ c0) (h : impl_AddDay.f l0 a1 = some r) :
 Calls Try.prog 86 #[.slice A0 l0.length c0, .bool a1] w fun e w' => ∃ v0_ : Value, e = .returned (v0_) ∧ Kd.R Kd.bool 4 w' w.heap.size (fun _ => True) v0_ r ∧ Below w.heap.size w w' := by
 have HR0 := Aside0.mk hr0
 have HC0 := Aside0.mk hc0
 clear hr0 hc0
 have HB := Aside0.mk (Below.refl w.heap.size w)
 have H : ((some (([] : List Bool) : List Bool)).bind fun y367 => (if y367.length + l0.length < 140737488355328 then ((some (y367 ++ l0 : List Bool)).bind fun y370 => (if y370.length < 140737488355328 then ((some (([] : List Bool) : List Bool)).bind fun y376 => ((impl_last.f (y370 ++ [a1]) 10).bind fun t379 => (if y376.length + t379.length < 140737488355328 then (some (y376 ++ t379)) else (none)))) else (none))) else (none))) = some r := h
 clear h
 obtain ⟨y367, hy367⟩ : ∃ y_ : List Bool, y_ = (([] : List Bool)) := ⟨_, rfl⟩
 replace H : (if y367.length + l0.length < 140737488355328 then ((some (y367 ++ l0 : List Bool)).bind fun y370 => (if y370.length < 140737488355328 then ((some (([] : List Bool) : List Bool)).bind fun y376 => ((impl_last.f (y370 ++ [a1]) 10).bind fun t379 => (if y376.length + t379.length < 140737488355328 then (some (y376 ++ t379)) else (none)))) else (none))) else (none)) = some r := by first | (rw [hy367]; with_reducible exact H) | (have H2_ := (Option.bind_some _ _).symm.trans H; rw [hy367]; with_reducible exact H2_) | (have H2_ := (Option.bind_some _ _).symm.trans H; with_reducible exact H2_) | with_reducible exact H | (rw [hy367]; exact H) | exact H
 have Ny367 := Aside0.mk hy367
 clear hy367
 by_cases c3 : y367.length + l0.length < 140737488355328
 rotate_left
 · rw [if_neg c3] at H
   exact absurd H (by simp)
 rw [if_pos c3] at H
 have LMc3 := Aside0.mk c3
 clear c3
 obtain ⟨y370, hy370⟩ : ∃ y_ : List Bool, y_ = (y367 ++ l0) := ⟨_, rfl⟩
 replace H : (if y370.length < 140737488355328 then ((some (([] : List Bool) : List Bool)).bind fun y376 => ((impl_last.f (y370 ++ [a1]) 10).bind fun t379 => (if y376.length + t379.length < 140737488355328 then (some (y376 ++ t379)) else (none)))) else (none)) = some r := by first | (rw [hy370]; with_reducible exact H) | (have H2_ := (Option.bind_some _ _).symm.trans H; rw [hy370]; with_reducible exact H2_) | (have H2_ := (Option.bind_some _ _).symm.trans H; with_reducible exact H2_) | with_reducible exact H | (rw [hy370]; exact H) | exact H
 have Ny370 := Aside0.mk hy370
 clear hy370
 by_cases c4 : y370.length < 140737488355328
 rotate_left
 · rw [if_neg c4] at H
   exact absurd H (by simp)
 rw [if_pos c4] at H
 have LMc4 := Aside0.mk c4
 clear c4
 obtain ⟨y373, hy373⟩ : ∃ y_ : List Bool, y_ = (y370 ++ [a1]) := ⟨_, rfl⟩
 replace H : ((some (([] : List Bool) : List Bool)).bind fun y376 => ((impl_last.f y373 10).bind fun t379 => (if y376.length + t379.length < 140737488355328 then (some (y376 ++ t379)) else (none)))) = some r := by first | (rw [hy373]; with_reducible exact H) | (have H2_ := (Option.bind_some _ _).symm.trans H; rw [hy373]; with_reducible exact H2_) | (have H2_ := (Option.bind_some _ _).symm.trans H; with_reducible exact H2_) | with_reducible exact H | (rw [hy373]; exact H) | exact H
 have Ny373 := Aside0.mk hy373
 clear hy373
 obtain ⟨y376, hy376⟩ : ∃ y_ : List Bool, y_ = (([] : List Bool)) := ⟨_, rfl⟩
 replace H : ((impl_last.f y373 10).bind fun t379 => (if y376.length + t379.length < 140737488355328 then (some (y376 ++ t379)) else (none))) = some r := by first | (rw [hy376]; with_reducible exact H) | (have H2_ := (Option.bind_some _ _).symm.trans H; rw [hy376]; with_reducible exact H2_) | (have H2_ := (Option.bind_some _ _).symm.trans H; with_reducible exact H2_) | with_reducible exact H | (rw [hy376]; exact H) | exact H
 have Ny376 := Aside0.mk hy376
 clear hy376
 replace H := Option.bind_eq_some_iff.mp H
 obtain ⟨t379, A50, H⟩ := H
 have A5 := Aside0.mk A50
 clear A50
 by_cases c6 : y376.length + t379.length < 140737488355328
 rotate_left
 · rw [if_neg c6] at H
   exact absurd H (by simp)
 rw [if_pos c6] at H
 have LMc6 := Aside0.mk c6
 clear c6
 obtain ⟨y382, hy382⟩ : ∃ y_ : List Bool, y_ = (y376 ++ t379) := ⟨_, rfl⟩
 replace H : (some y382) = some r := by first | (rw [hy382]; with_reducible exact H) | (have H2_ := (Option.bind_some _ _).symm.trans H; rw [hy382]; with_reducible exact H2_) | (have H2_ := (Option.bind_some _ _).symm.trans H; with_reducible exact H2_) | with_reducible exact H | (rw [hy382]; exact H) | exact H
 have Ny382 := Aside0.mk hy382
 clear hy382
 obtain rfl := Option.some.inj H
 go_enter Try.func86, Try.ntmps86
 go_wp2_with (first | ((with_reducible refine gate_dst (N := 6) rfl ?_); refine Kd.R_lit Kd.bool _ 4 ?hg (N := 6) ?hd (xs := ([] : List Bool)) (inner := []) (ok := fun _ => True) (okp := fun _ => True) ?hr ?hp (fun _ hk => hk) trivial (Below.refl _ _) (Nat.le_refl _) (by simp) ?_; (case hd => rfl); (case hg => rfl); (case hr => first | (go_simp; done) | (go_simp; rfl)); (case hp => exact (Reps.none _ _)); intro v368 w7 ho8 hb hg_ hnew_; clear hg_ hnew_; (first | rw [← Ny367.out] at ho8 | (simp only [Int.reduceToNat] at ho8; rw [← Ny367.out] at ho8)); have n0_ := Aside0.mk (Kd.R_lower ho8 (below_size (below_up HB.out))); have n1_ := Aside0.mk (below_step (below_up HB.out) hb); have HO369 := n0_; replace HB := n1_; clear n0_ n1_; clear hb ho8) | ((with_reducible refine gate_builtin (b := .append) (xs := #[.tmp 6, .tmp 7]) rfl ?_); at_builtin; refine Kd.R_append_rows Kd.bool (w0 := w) w.heap.size rfl (.tmp 6) (.tmp 7) 50 4 (.bool false) 1 rfl Try.underlying50 info4 rfl (by decide) (by omega) v368 y367 l0 _ _ _ (fun _ => True) (fun _ => False) rfl rfl ?aO ?aR (fun _ _ h => h) (fun _ h => h.elim) ?aF ?aB ?aS ?aL ?_; (case aR => repeat (first | exact (Kd.C_below HR0.out HB.out) | (with_reducible refine Kd.C_alloc ?_ _) | (with_reducible refine Kd.C_drewN ?_ _) | (with_reducible refine Kd.C_drew ?_))); (case aB => exact (below_up HB.out)); (case aF => exact (fun _ _ => trivial)); (case aO => exact (by (with_reducible repeat (first | apply Kd.R_alloc | apply Kd.R_drewN | apply Kd.R_drew)); exact HO369.out)); (case aS => exact (below_size (below_up HB.out))); (case aL => have := LMc3.out; omega); intro v371 w9 ho hb hg hat; rw [← Ny370.out] at ho; have n0_ := Aside0.mk (hb); have n1_ := Aside0.mk (ho); clear HB; clear HO369; have HB := n0_; have HO372 := n1_; clear n0_ n1_; clear ho hb hg hat) | ((with_reducible refine gate_builtin (b := .append) (xs := #[.tmp 8, .tmp 10]) rfl ?_); at_builtin; refine Kd.R_append Kd.bool (w0 := w) w.heap.size rfl (.tmp 8) (.tmp 10) 50 4 (.bool false) 1 rfl Try.underlying50 info4 rfl (by decide) (by omega) v371 y370 a1 [.bool a1] (fun _ => True) (fun _ => False) rfl rfl ?aP (fun _ hk => hk.elim) ?aF ?aO ?aB ?aS ?aL ?_; (case aP => exact rfl); (case aB => exact (below_up HB.out)); (case aF => exact (fun _ _ => trivial)); (case aO => exact (by (with_reducible repeat (first | apply Kd.R_alloc | apply Kd.R_drewN | apply Kd.R_drew)); exact HO372.out)); (case aS => exact (below_size (below_up HB.out))); (case aL => have := LMc4.out; omega); intro v374 w10 ho hb hg hat; rw [← Ny373.out] at ho; have n0_ := Aside0.mk (hb); have n1_ := Aside0.mk (ho); clear HB; clear HO372; have HB := n0_; have HO375 := n1_; clear n0_ n1_; clear ho hb hg hat) | ((with_reducible refine gate_dst (N := 12) rfl ?_); refine Kd.R_lit Kd.bool _ 4 ?hg (N := 12) ?hd (xs := ([] : List Bool)) (inner := []) (ok := fun _ => True) (okp := fun _ => True) ?hr ?hp (fun _ hk => hk) trivial (Below.refl _ _) (Nat.le_refl _) (by simp) ?_; (case hd => rfl); (case hg => rfl); (case hr => first | (go_simp; done) | (go_simp; rfl)); (case hp => exact (Reps.none _ _)); intro v377 w11 ho12 hb hg_ hnew_; clear hg_ hnew_; (first | rw [← Ny376.out] at ho12 | (simp only [Int.reduceToNat] at ho12; rw [← Ny376.out] at ho12)); have n0_ := Aside0.mk (Kd.R_elder' (Kd.R_up HO375.out) (Kd.R_base ho12) hb); have n1_ := Aside0.mk (Kd.R_lower (Kd.R_new' ho12 (Kd.R_lt (Kd.R_up HO375.out))) (below_size (below_up HB.out))); have n2_ := Aside0.mk (below_step (below_up HB.out) hb); replace HO375 := n0_; have HO378 := n1_; replace HB := n2_; clear n0_ n1_ n2_; clear hb ho12; obtain ⟨Ao13, co13, eo13⟩ := Kd.R_slice HO375.out; subst eo13) | ((with_reducible refine gate_callee (f := 93) rfl ?_); refine goesL_ (some 14) rfl rfl Try.func93 (by kernel_rfl) rfl #[.slice Ao13 y373.length co13, .int .i64 10] rfl (by (try simp only [am_]); first | done | rfl) ?_; (with_reducible refine (impl_last.calls (fun k_ => some k_ = (.slice Ao13 y373.length co13 : Value).ownBlock) _ _ y373 10 t379 _ ?side1 A5.out).mono ?_); (case side1 => exact Kd.R_V (Kd.R_tight rfl (HO375.out))); rintro e w14 ⟨v380, rfl, ho0, hb⟩; refine ⟨_, rfl, ?_⟩; have n0_ := Aside0.mk (Kd.R_below (Kd.R_up HO375.out) hb); have n1_ := Aside0.mk (Kd.R_below (Kd.R_up HO378.out) hb); have n2_ := Aside0.mk (Kd.V_lower (Kd.V_mono (ok' := fun k_ => some k_ ≠ (v377 : Value).ownBlock) ho0 (fun k_ hk_ => Or.elim hk_ (fun hs_ => ((HO375.out).1 k_ hs_.symm).2) (fun hn_ => (Kd.fresh' (Kd.R_lt (Kd.R_up HO378.out)) k_ hn_)))) (below_size (below_up HB.out))); have n3_ := Aside0.mk (below_step (below_up HB.out) hb); replace HO375 := n0_; replace HO378 := n1_; have HO381 := n2_; replace HB := n3_; clear n0_ n1_ n2_ n3_; (try clear hb); (try clear hb2); (try clear hk); (try clear hi); (try clear ho0); obtain ⟨Ao16, co16, eo16⟩ := Kd.V_slice HO381.out; subst eo16) | ((with_reducible refine gate_builtin (b := .append) (xs := #[.tmp 12, .tmp 14]) rfl ?_); at_builtin; refine Kd.R_append_rows Kd.bool (w0 := w) w.heap.size rfl (.tmp 12) (.tmp 14) 50 4 (.bool false) 1 rfl Try.underlying50 info4 rfl (by decide) (by omega) v377 y376 t379 _ _ _ (fun k_ => some k_ ≠ (.slice Ao13 y373.length co13 : Value).ownBlock) (fun _ => False) rfl rfl ?aO ?aR (fun _ _ h => h) (fun _ h => h.elim) ?aF ?aB ?aS ?aL ?_; (case aR => repeat (first | exact (Kd.V_reads' HO381.out).2.2 | (with_reducible refine Kd.C_alloc ?_ _) | (with_reducible refine Kd.C_drewN ?_ _) | (with_reducible refine Kd.C_drew ?_))); (case aB => exact (below_up HB.out)); (case aF => exact (fun k_ hk => Kd.fresh' (Kd.R_lt (by (with_reducible repeat (first | apply Kd.R_alloc | apply Kd.R_drewN | apply Kd.R_drew)); exact HO375.out)) k_ hk)); (case aO => exact (by (with_reducible repeat (first | apply Kd.R_alloc | apply Kd.R_drewN | apply Kd.R_drew)); exact Kd.R_mono HO378.out (fun _ hk => hk.2))); (case aS => exact (below_size (below_up HB.out))); (case aL => have := LMc6.out; omega); intro v383 w15 ho hb hg hat; rw [← Ny382.out] at ho; have n0_ := Aside0.mk (Kd.R_after (ok := (fun _ => True)) (Kd.R_up HO375.out) hg hat); have n1_ := Aside0.mk (Kd.V_afterv (ok := (fun _ => True)) (by (with_reducible repeat (first | apply Kd.V_alloc | apply Kd.V_drewN | apply Kd.V_drew)); exact Kd.V_mono HO381.out (fun _ hk => ⟨trivial, hk⟩)) hg hat); have n2_ := Aside0.mk (hb); have n3_ := Aside0.mk (ho); clear HO375; clear HO381; clear HB; clear HO378; have HO375 := n0_; have HO381 := n1_; have HB := n2_; have HO384 := n3_; clear n0_ n1_ n2_ n3_; clear ho hb hg hat))
 go_ret
 exact ⟨_, by first | rfl | (simp [errW_none, errW_some] <;> rfl) | (simp [*, errW_none, errW_some] <;> rfl), by (with_reducible repeat (first | apply Kd.R_alloc | apply Kd.R_drewN | apply Kd.R_drew)); exact Kd.R_mono HO384.out (fun _ hk => trivial), below_up HB.out⟩

end Go.Proofs.Ytdgpnmbmnnmdcab.PFnExactNeedHome
