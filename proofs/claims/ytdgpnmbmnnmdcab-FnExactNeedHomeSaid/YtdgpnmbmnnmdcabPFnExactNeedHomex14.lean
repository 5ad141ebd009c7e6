/- Contracts of Go functions: what print.sh prints, written shorter by low.py. -/
import Derived.Test.YtdgpnmbmnnmdcabLow
import Derived.Test.YtdgpnmbmnnmdcabUp
import Derived.Test.YtdgpnmbmnnmdcabPFnExactNeedHomex0
import Derived.Test.YtdgpnmbmnnmdcabPFnExactNeedHomex1
import Derived.Test.YtdgpnmbmnnmdcabPFnExactNeedHomex7
import Derived.Test.YtdgpnmbmnnmdcabPFnExactNeedHomex12
import Derived.Test.YtdgpnmbmnnmdcabPFnExactNeedHomex13
namespace Go.Proofs.Ytdgpnmbmnnmdcab.PFnExactNeedHome
open Go.RowKit Go.Proofs.YtdgpnmbmnnmdcabW.PrintWords Go.Proofs.YtdgpnmbmnnmdcabW.PrintLast Go.Proofs.YtdgpnmbmnnmdcabW.PrintMore
attribute [local go_sem] max2_int min2_int max_two min_two max_three min_three max_four min_four   -- for this text's walks alone
set_option linter.unusedVariables false
set_option linter.unusedSimpArgs false

/-! ### laws_FnExactNeedHome: function 6 -/
def laws_FnExactNeedHome.f (k : Nat) (a0_0 : Int) (a0_1 : Int) (l0_2 : List Int) (a1 : Int) (a2_0 : Int) (a2_1 : Int) (a3_0 : Int) (a3_1 : Int) (l3_2 : List (S97)) (l3_3 : List Bool) : Option (Bool) := (laws_szLand.f a0_0 a0_1 l0_2 1048576).bind fun t419 => (if t419 < 0 then (some true) else ((laws_szParty.f a3_0 a3_1 l3_2 l3_3 t419).bind fun t420 => (if t420 < 0 then (some true) else ((laws_toLand.f k a0_0 a0_1 l0_2).bind fun bt421 => ((laws_toRule.f a2_0 a2_1).bind fun bt426 => ((laws_toParty.f k a3_0 a3_1 l3_2 l3_3).bind fun bt428 => ((spec_NeedHome.f k bt421.1 bt421.2.1 bt421.2.2 a1 bt426.1 bt426.2 bt428.1 bt428.2.1 bt428.2.2.1 bt428.2.2.2).bind fun t436 => ((laws_toLand.f k a0_0 a0_1 l0_2).bind fun bt437 => ((laws_toParty.f k a3_0 a3_1 l3_2 l3_3).bind fun bt443 => ((laws_toRule.f a2_0 a2_1).bind fun bt452 => ((impl_NeedHome.f k bt437.1 bt437.2.1 bt437.2.2 a1 bt452.1 bt452.2 bt443.1 bt443.2.1 bt443.2.2.1 bt443.2.2.2).bind fun t454 => (if t454 = t436 then ((laws_toLand.f k a0_0 a0_1 l0_2).bind fun bt455 => ((laws_eqLand.f k bt437.1 bt437.2.1 bt437.2.2 bt455.1 bt455.2.1 bt455.2.2).bind fun t460 => (if t460 = true then ((laws_toParty.f k a3_0 a3_1 l3_2 l3_3).bind fun bt461 => ((laws_eqParty.f k bt443.1 bt443.2.1 bt443.2.2.1 bt443.2.2.2 bt461.1 bt461.2.1 bt461.2.2.1 bt461.2.2.2).bind fun t469 => (if t469 = true then (some true) else (some false)))) else (some false)))) else (some false)))))))))))))
theorem laws_FnExactNeedHome.mono : ∀ a0 a1 a2 a3 a4 a5 a6 a7 a8 a9 k, LeO (laws_FnExactNeedHome.f k a0 a1 a2 a3 a4 a5 a6 a7 a8 a9) (laws_FnExactNeedHome.f (k + 1) a0 a1 a2 a3 a4 a5 a6 a7 a8 a9) := by
 intro a0 a1 a2 a3 a4 a5 a6 a7 a8 a9 k
 unfold laws_FnExactNeedHome.f
 repeat' first
  | (with_reducible exact impl_NeedHome.mono _ _ _ _ _ _ _ _ _ _ _)
  | (with_reducible exact laws_eqLand.mono _ _ _ _ _ _ _)
  | (with_reducible exact laws_eqParty.mono _ _ _ _ _ _ _ _ _)
  | (with_reducible exact laws_toLand.mono _ _ _ _)
  | (with_reducible exact laws_toParty.mono _ _ _ _ _)
  | (with_reducible exact spec_NeedHome.mono _ _ _ _ _ _ _ _ _ _ _)
  | (with_reducible exact LeO.refl _)
  | (with_reducible exact LeO.none _)
  | (with_reducible refine LeO.ite ?_ ?_)
  | (with_reducible refine LeO.bind ?_ (fun _ => ?_))
  | exact impl_NeedHome.mono _ _ _ _ _ _ _ _ _ _ _
  | exact laws_eqLand.mono _ _ _ _ _ _ _
  | exact laws_eqParty.mono _ _ _ _ _ _ _ _ _
  | exact laws_toLand.mono _ _ _ _
  | exact laws_toParty.mono _ _ _ _ _
  | exact spec_NeedHome.mono _ _ _ _ _ _ _ _ _ _ _
  | exact LeO.none _
  | refine LeO.ite ?_ ?_
  | refine LeO.bind ?_ (fun _ => ?_)
def laws_FnExactNeedHome.T8 : Bool × List (List Nat × List Nat) := (true, [([], []), ([0], [0]), ([], []), ([], []), ([3, 1], [3]), ([], []), ([5, 4], [5]), ([1, 2, 4, 6, 6], [1, 2, 4, 6]), ([7, 7, 0, 1, 2, 3, 4, 5, 6, 7], [7])])
def laws_FnExactNeedHome.B8 : List Nat := [0, 1, 0, 0, 11, 0, 59, 127, 255]
theorem laws_FnExactNeedHome.tab8 : rtab .any (opsOf Try.f6 8) = laws_FnExactNeedHome.T8 := by kernel_rfl
theorem laws_FnExactNeedHome.bits8 : waitsOk laws_FnExactNeedHome.T8.2 laws_FnExactNeedHome.B8 = true := by kernel_rfl
set_option maxHeartbeats 8000000 in
set_option maxRecDepth 100000 in
theorem laws_FnExactNeedHome.calls (k : Nat) (a0_0 : Int) (a0_1 : Int) (A0_2 : Option Addr) (c0_2 : Nat) (l0_2 : List Int) (a1 : Int) (a2_0 : Int) (a2_1 : Int) (a3_0 : Int) (a3_1 : Int) (A3_2 : Option Addr) (c3_2 : Nat) (l3_2 : List (S97)) (A3_3 : Option Addr) (c3_3 : Nat) (l3_3 : List Bool) (_ : Bool) (w : World) (hr0_2 : Kd.C (Kd.int .i64) w A0_2 l0_2.length l0_2) (hc0_2 : l0_2.length ≤ c0_2) (hr3_2 : Kd.C k97 w A3_2 l3_2.length l3_2) (hc3_2 : l3_2.length ≤ c3_2) (hr3_3 : Kd.C Kd.bool w A3_3 l3_3.length l3_3) (hc3_3 : l3_3.length ≤ c3_3) (h : laws_FnExactNeedHome.f k a0_0 a0_1 l0_2 a1 a2_0 a2_1 a3_0 a3_1 l3_2 l3_3 = some true) :
 Calls Try.prog 6 #[.agg #[.int .i64 a0_0, .int .i64 a0_1, .slice A0_2 l0_2.length c0_2], .int .i64 a1, .agg #[.int .i64 a2_0, .int .i64 a2_1], .agg #[.int .i64 a3_0, .int .i64 a3_1, .slice A3_2 l3_2.length c3_2, .slice A3_3 l3_3.length c3_3]] w fun e w' => e = .returned (.bool true) ∧ Below w.heap.size w w' := by
 have hu24 := Try.underlying24
 have hu48 := Try.underlying48
 have hu52 := Try.underlying52
 have hu27 := Try.underlying27
 have hu59 := Try.underlying59
 have HR0_2 := Aside0.mk hr0_2
 have HC0_2 := Aside0.mk hc0_2
 clear hr0_2 hc0_2
 have HR3_2 := Aside0.mk hr3_2
 have HC3_2 := Aside0.mk hc3_2
 clear hr3_2 hc3_2
 have HR3_3 := Aside0.mk hr3_3
 have HC3_3 := Aside0.mk hc3_3
 clear hr3_3 hc3_3
 have HB := Aside0.mk (Below.refl w.heap.size w)
 have H : ((laws_szLand.f a0_0 a0_1 l0_2 1048576).bind fun t419 => (if t419 < 0 then (some true) else ((laws_szParty.f a3_0 a3_1 l3_2 l3_3 t419).bind fun t420 => (if t420 < 0 then (some true) else ((laws_toLand.f k a0_0 a0_1 l0_2).bind fun bt421 => ((laws_toRule.f a2_0 a2_1).bind fun bt426 => ((laws_toParty.f k a3_0 a3_1 l3_2 l3_3).bind fun bt428 => ((spec_NeedHome.f k bt421.1 bt421.2.1 bt421.2.2 a1 bt426.1 bt426.2 bt428.1 bt428.2.1 bt428.2.2.1 bt428.2.2.2).bind fun t436 => ((laws_toLand.f k a0_0 a0_1 l0_2).bind fun bt437 => ((laws_toParty.f k a3_0 a3_1 l3_2 l3_3).bind fun bt443 => ((laws_toRule.f a2_0 a2_1).bind fun bt452 => ((impl_NeedHome.f k bt437.1 bt437.2.1 bt437.2.2 a1 bt452.1 bt452.2 bt443.1 bt443.2.1 bt443.2.2.1 bt443.2.2.2).bind fun t454 => (if t454 = t436 then ((laws_toLand.f k a0_0 a0_1 l0_2).bind fun bt455 => ((laws_eqLand.f k bt437.1 bt437.2.1 bt437.2.2 bt455.1 bt455.2.1 bt455.2.2).bind fun t460 => (if t460 = true then ((laws_toParty.f k a3_0 a3_1 l3_2 l3_3).bind fun bt461 => ((laws_eqParty.f k bt443.1 bt443.2.1 bt443.2.2.1 bt443.2.2.2 bt461.1 bt461.2.1 bt461.2.2.1 bt461.2.2.2).bind fun t469 => (if t469 = true then (some true) else (some false)))) else (some false)))) else (some false)))))))))))))) = some true := h
 clear h
 replace H := Option.bind_eq_some_iff.mp H
 obtain ⟨t419, A50, H⟩ := H
 have A5 := Aside0.mk A50
 clear A50
 by_cases c6 : t419 < 0
 · rw [if_pos c6] at H
   have c6b0 : decide (t419 < 0) = true := decide_eq_true c6
   clear c6
   clear H
   go_enter Try.func6, Try.ntmps6
   go_wp2_with (first | ((with_reducible refine gate_dst (N := 4) rfl ?_); refine box_event ?hg (N := 4) ?hd (cs := #[.int .i64 a0_0, .int .i64 a0_1, .slice A0_2 l0_2.length c0_2]) (t := 24) ?hr ?_; (case hd => rfl); (case hg => rfl); (case hr => first | (go_simp; done) | (go_simp; rfl)); intro gb416 hg w7 hbox hb; have n0_ := Aside0.mk (below_step (below_up HB.out) hb); have n1_ := Aside0.mk (hbox); have n2_ := Aside0.mk (szle hg HB.out); have n3_ := Aside0.mk (szle hg HB.out); replace HB := n0_; have BK416 := n1_; have GW416 := n2_; have GE416 := n3_; clear n0_ n1_ n2_ n3_; clear hb hbox hg) | ((with_reducible refine gate_dst (N := 6) rfl ?_); refine box_event ?hg (N := 6) ?hd (cs := #[.int .i64 a2_0, .int .i64 a2_1]) (t := 48) ?hr ?_; (case hd => rfl); (case hg => rfl); (case hr => first | (go_simp; done) | (go_simp; rfl)); intro gb417 hg w8 hbox hb; have n0_ := Aside0.mk (blk_below (blk_up BK416.out) hb); have n1_ := Aside0.mk (below_step (by repeat (first | (with_reducible first | exact HB.out | apply below_alloc | apply pw_below_drewN | apply below_drew1 | refine below_set ?_ GE416.out) | exact HB.out)) hb); have n2_ := Aside0.mk (hbox); have n3_ := Aside0.mk ((by rw [hg]; exact (below_size (by repeat (first | (with_reducible first | exact HB.out | apply below_alloc | apply pw_below_drewN | apply below_drew1 | refine below_set ?_ GE416.out) | exact HB.out))) : w.heap.size ≤ gb417)); have n4_ := Aside0.mk ((by rw [hg]; exact (below_size (by repeat (first | (with_reducible first | exact HB.out | apply below_alloc | apply pw_below_drewN | apply below_drew1 | refine below_set ?_ GE416.out) | exact HB.out))) : w.heap.size ≤ gb417)); have n5_ := Aside0.mk ((by rw [hg]; exact Nat.ne_of_lt (blk_lt (g := gb416) (o := .cells #[.int .i64 a0_0, .int .i64 a0_1, .slice A0_2 l0_2.length c0_2] 24 (0, 0)) (by (with_reducible repeat (first | refine blk_drewN ?_ _ | refine blk_drew ?_ | refine blk_alloc ?_ _)); exact BK416.out)) : gb416 ≠ gb417)); have n6_ := Aside0.mk ((by rw [hg]; exact Nat.ne_of_gt (blk_lt (g := gb416) (o := .cells #[.int .i64 a0_0, .int .i64 a0_1, .slice A0_2 l0_2.length c0_2] 24 (0, 0)) (by (with_reducible repeat (first | refine blk_drewN ?_ _ | refine blk_drew ?_ | refine blk_alloc ?_ _)); exact BK416.out)) : gb417 ≠ gb416)); replace BK416 := n0_; replace HB := n1_; have BK417 := n2_; have GW417 := n3_; have GE417 := n4_; have NB416_417 := n5_; have NB417_416 := n6_; clear n0_ n1_ n2_ n3_ n4_ n5_ n6_; clear hb hbox hg) | ((with_reducible refine gate_dst (N := 7) rfl ?_); refine box_event ?hg (N := 7) ?hd (cs := #[.int .i64 a3_0, .int .i64 a3_1, .slice A3_2 l3_2.length c3_2, .slice A3_3 l3_3.length c3_3]) (t := 52) ?hr ?_; (case hd => rfl); (case hg => rfl); (case hr => first | (go_simp; done) | (go_simp; rfl)); intro gb418 hg w9 hbox hb; have n0_ := Aside0.mk (blk_below (blk_up BK416.out) hb); have n1_ := Aside0.mk (blk_below (blk_up BK417.out) hb); have n2_ := Aside0.mk (below_step (by repeat (first | (with_reducible first | exact HB.out | apply below_alloc | apply pw_below_drewN | apply below_drew1 | refine below_set ?_ GE416.out | refine below_set ?_ GE417.out) | exact HB.out)) hb); have n3_ := Aside0.mk (hbox); have n4_ := Aside0.mk ((by rw [hg]; exact (below_size (by repeat (first | (with_reducible first | exact HB.out | apply below_alloc | apply pw_below_drewN | apply below_drew1 | refine below_set ?_ GE416.out | refine below_set ?_ GE417.out) | exact HB.out))) : w.heap.size ≤ gb418)); have n5_ := Aside0.mk ((by rw [hg]; exact (below_size (by repeat (first | (with_reducible first | exact HB.out | apply below_alloc | apply pw_below_drewN | apply below_drew1 | refine below_set ?_ GE416.out | refine below_set ?_ GE417.out) | exact HB.out))) : w.heap.size ≤ gb418)); have n6_ := Aside0.mk ((by rw [hg]; exact Nat.ne_of_lt (blk_lt (g := gb416) (o := .cells #[.int .i64 a0_0, .int .i64 a0_1, .slice A0_2 l0_2.length c0_2] 24 (0, 0)) (by (with_reducible repeat (first | refine blk_drewN ?_ _ | refine blk_drew ?_ | refine blk_alloc ?_ _)); exact BK416.out)) : gb416 ≠ gb418)); have n7_ := Aside0.mk ((by rw [hg]; exact Nat.ne_of_gt (blk_lt (g := gb416) (o := .cells #[.int .i64 a0_0, .int .i64 a0_1, .slice A0_2 l0_2.length c0_2] 24 (0, 0)) (by (with_reducible repeat (first | refine blk_drewN ?_ _ | refine blk_drew ?_ | refine blk_alloc ?_ _)); exact BK416.out)) : gb418 ≠ gb416)); have n8_ := Aside0.mk ((by rw [hg]; exact Nat.ne_of_lt (blk_lt (g := gb417) (o := .cells #[.int .i64 a2_0, .int .i64 a2_1] 48 (0, 0)) (by (with_reducible repeat (first | refine blk_drewN ?_ _ | refine blk_drew ?_ | refine blk_alloc ?_ _)); exact BK417.out)) : gb417 ≠ gb418)); have n9_ := Aside0.mk ((by rw [hg]; exact Nat.ne_of_gt (blk_lt (g := gb417) (o := .cells #[.int .i64 a2_0, .int .i64 a2_1] 48 (0, 0)) (by (with_reducible repeat (first | refine blk_drewN ?_ _ | refine blk_drew ?_ | refine blk_alloc ?_ _)); exact BK417.out)) : gb418 ≠ gb417)); replace BK416 := n0_; replace BK417 := n1_; replace HB := n2_; have BK418 := n3_; have GW418 := n4_; have GE418 := n5_; have NB416_418 := n6_; have NB418_416 := n7_; have NB417_418 := n8_; have NB418_417 := n9_; clear n0_ n1_ n2_ n3_ n4_ n5_ n6_ n7_ n8_ n9_; clear hb hbox hg; have hnb10 := NB416_417.out; have hnc10 := NB417_416.out; have hnb11 := NB416_418.out; have hnc11 := NB418_416.out; obtain ⟨hcz12_0, hcz12_1, hcz12_2⟩ := cells3_ BK416.out; obtain ⟨hfz12_0, hfz12_1, hfz12_2⟩ := frz3_ BK416.out) | ((with_reducible refine gate_callee (f := 7) rfl ?_); refine goesL_ (some 16) rfl rfl Try.func7 (by kernel_rfl) rfl #[.agg #[.int .i64 a0_0, .int .i64 a0_1, .slice A0_2 l0_2.length c0_2], .int .i64 1048576] rfl (by (try simp only [List.map_toArray, List.map_cons, List.map_nil]); first | done | rfl | (simp only [List.length_drop, List.length_take]; rfl)) ?_; (with_reducible refine (laws_szLand.calls a0_0 a0_1 _ _ l0_2 1048576 t419 _ ?side1 ?side2 A5.out).mono ?_); (case side1 => exact (Kd.C_below HR0_2.out (below_up HB.out))); (case side2 => exact HC0_2.out); rintro e w13 ⟨rfl, hb⟩; refine ⟨_, rfl, ?_⟩; have n0_ := Aside0.mk (blk_below (blk_up BK416.out) hb); have n1_ := Aside0.mk (blk_below (blk_up BK417.out) hb); have n2_ := Aside0.mk (blk_below (blk_up BK418.out) hb); have n3_ := Aside0.mk (below_step (by repeat (first | (with_reducible first | exact HB.out | apply below_alloc | apply pw_below_drewN | apply below_drew1 | refine below_set ?_ GE416.out | refine below_set ?_ GE417.out | refine below_set ?_ GE418.out) | exact HB.out)) hb); replace BK416 := n0_; replace BK417 := n1_; replace BK418 := n2_; replace HB := n3_; clear n0_ n1_ n2_ n3_; (try clear hb); (try clear hb2); (try clear hk); (try clear hi)))
   go_ret
   exact ⟨by first | rfl | (simp [errW_none, errW_some] <;> rfl) | (simp [*, errW_none, errW_some] <;> rfl), by repeat (first | (with_reducible first | exact HB.out | apply below_alloc | apply pw_below_drewN | apply below_drew1 | refine below_set ?_ GE416.out | refine below_set ?_ GE417.out | refine below_set ?_ GE418.out) | exact HB.out)⟩
 rw [if_neg c6] at H
 have c6b0 : decide (t419 < 0) = false := decide_eq_false c6
 clear c6
 replace H := Option.bind_eq_some_iff.mp H
 obtain ⟨t420, A140, H⟩ := H
 have A14 := Aside0.mk A140
 clear A140
 by_cases c15 : t420 < 0
 · rw [if_pos c15] at H
   have c15b0 : decide (t420 < 0) = true := decide_eq_true c15
   clear c15
   clear H
   go_enter Try.func6, Try.ntmps6
   go_wp2_with (first | ((with_reducible refine gate_dst (N := 4) rfl ?_); refine box_event ?hg (N := 4) ?hd (cs := #[.int .i64 a0_0, .int .i64 a0_1, .slice A0_2 l0_2.length c0_2]) (t := 24) ?hr ?_; (case hd => rfl); (case hg => rfl); (case hr => first | (go_simp; done) | (go_simp; rfl)); intro gb416 hg w16 hbox hb; have n0_ := Aside0.mk (below_step (below_up HB.out) hb); have n1_ := Aside0.mk (hbox); have n2_ := Aside0.mk (szle hg HB.out); have n3_ := Aside0.mk (szle hg HB.out); replace HB := n0_; have BK416 := n1_; have GW416 := n2_; have GE416 := n3_; clear n0_ n1_ n2_ n3_; clear hb hbox hg) | ((with_reducible refine gate_dst (N := 6) rfl ?_); refine box_event ?hg (N := 6) ?hd (cs := #[.int .i64 a2_0, .int .i64 a2_1]) (t := 48) ?hr ?_; (case hd => rfl); (case hg => rfl); (case hr => first | (go_simp; done) | (go_simp; rfl)); intro gb417 hg w17 hbox hb; have n0_ := Aside0.mk (blk_below (blk_up BK416.out) hb); have n1_ := Aside0.mk (below_step (by repeat (first | (with_reducible first | exact HB.out | apply below_alloc | apply pw_below_drewN | apply below_drew1 | refine below_set ?_ GE416.out) | exact HB.out)) hb); have n2_ := Aside0.mk (hbox); have n3_ := Aside0.mk ((by rw [hg]; exact (below_size (by repeat (first | (with_reducible first | exact HB.out | apply below_alloc | apply pw_below_drewN | apply below_drew1 | refine below_set ?_ GE416.out) | exact HB.out))) : w.heap.size ≤ gb417)); have n4_ := Aside0.mk ((by rw [hg]; exact (below_size (by repeat (first | (with_reducible first | exact HB.out | apply below_alloc | apply pw_below_drewN | apply below_drew1 | refine below_set ?_ GE416.out) | exact HB.out))) : w.heap.size ≤ gb417)); have n5_ := Aside0.mk ((by rw [hg]; exact Nat.ne_of_lt (blk_lt (g := gb416) (o := .cells #[.int .i64 a0_0, .int .i64 a0_1, .slice A0_2 l0_2.length c0_2] 24 (0, 0)) (by (with_reducible repeat (first | refine blk_drewN ?_ _ | refine blk_drew ?_ | refine blk_alloc ?_ _)); exact BK416.out)) : gb416 ≠ gb417)); have n6_ := Aside0.mk ((by rw [hg]; exact Nat.ne_of_gt (blk_lt (g := gb416) (o := .cells #[.int .i64 a0_0, .int .i64 a0_1, .slice A0_2 l0_2.length c0_2] 24 (0, 0)) (by (with_reducible repeat (first | refine blk_drewN ?_ _ | refine blk_drew ?_ | refine blk_alloc ?_ _)); exact BK416.out)) : gb417 ≠ gb416)); replace BK416 := n0_; replace HB := n1_; have BK417 := n2_; have GW417 := n3_; have GE417 := n4_; have NB416_417 := n5_; have NB417_416 := n6_; clear n0_ n1_ n2_ n3_ n4_ n5_ n6_; clear hb hbox hg) | ((with_reducible refine gate_dst (N := 7) rfl ?_); refine box_event ?hg (N := 7) ?hd (cs := #[.int .i64 a3_0, .int .i64 a3_1, .slice A3_2 l3_2.length c3_2, .slice A3_3 l3_3.length c3_3]) (t := 52) ?hr ?_; (case hd => rfl); (case hg => rfl); (case hr => first | (go_simp; done) | (go_simp; rfl)); intro gb418 hg w18 hbox hb; have n0_ := Aside0.mk (blk_below (blk_up BK416.out) hb); have n1_ := Aside0.mk (blk_below (blk_up BK417.out) hb); have n2_ := Aside0.mk (below_step (by repeat (first | (with_reducible first | exact HB.out | apply below_alloc | apply pw_below_drewN | apply below_drew1 | refine below_set ?_ GE416.out | refine below_set ?_ GE417.out) | exact HB.out)) hb); have n3_ := Aside0.mk (hbox); have n4_ := Aside0.mk ((by rw [hg]; exact (below_size (by repeat (first | (with_reducible first | exact HB.out | apply below_alloc | apply pw_below_drewN | apply below_drew1 | refine below_set ?_ GE416.out | refine below_set ?_ GE417.out) | exact HB.out))) : w.heap.size ≤ gb418)); have n5_ := Aside0.mk ((by rw [hg]; exact (below_size (by repeat (first | (with_reducible first | exact HB.out | apply below_alloc | apply pw_below_drewN | apply below_drew1 | refine below_set ?_ GE416.out | refine below_set ?_ GE417.out) | exact HB.out))) : w.heap.size ≤ gb418)); have n6_ := Aside0.mk ((by rw [hg]; exact Nat.ne_of_lt (blk_lt (g := gb416) (o := .cells #[.int .i64 a0_0, .int .i64 a0_1, .slice A0_2 l0_2.length c0_2] 24 (0, 0)) (by (with_reducible repeat (first | refine blk_drewN ?_ _ | refine blk_drew ?_ | refine blk_alloc ?_ _)); exact BK416.out)) : gb416 ≠ gb418)); have n7_ := Aside0.mk ((by rw [hg]; exact Nat.ne_of_gt (blk_lt (g := gb416) (o := .cells #[.int .i64 a0_0, .int .i64 a0_1, .slice A0_2 l0_2.length c0_2] 24 (0, 0)) (by (with_reducible repeat (first | refine blk_drewN ?_ _ | refine blk_drew ?_ | refine blk_alloc ?_ _)); exact BK416.out)) : gb418 ≠ gb416)); have n8_ := Aside0.mk ((by rw [hg]; exact Nat.ne_of_lt (blk_lt (g := gb417) (o := .cells #[.int .i64 a2_0, .int .i64 a2_1] 48 (0, 0)) (by (with_reducible repeat (first | refine blk_drewN ?_ _ | refine blk_drew ?_ | refine blk_alloc ?_ _)); exact BK417.out)) : gb417 ≠ gb418)); have n9_ := Aside0.mk ((by rw [hg]; exact Nat.ne_of_gt (blk_lt (g := gb417) (o := .cells #[.int .i64 a2_0, .int .i64 a2_1] 48 (0, 0)) (by (with_reducible repeat (first | refine blk_drewN ?_ _ | refine blk_drew ?_ | refine blk_alloc ?_ _)); exact BK417.out)) : gb418 ≠ gb417)); replace BK416 := n0_; replace BK417 := n1_; replace HB := n2_; have BK418 := n3_; have GW418 := n4_; have GE418 := n5_; have NB416_418 := n6_; have NB418_416 := n7_; have NB417_418 := n8_; have NB418_417 := n9_; clear n0_ n1_ n2_ n3_ n4_ n5_ n6_ n7_ n8_ n9_; clear hb hbox hg; have hnb19 := NB416_417.out; have hnc19 := NB417_416.out; have hnb20 := NB416_418.out; have hnc20 := NB418_416.out; obtain ⟨hcz21_0, hcz21_1, hcz21_2⟩ := cells3_ BK416.out; obtain ⟨hfz21_0, hfz21_1, hfz21_2⟩ := frz3_ BK416.out) | ((with_reducible refine gate_callee (f := 7) rfl ?_); refine goesL_ (some 16) rfl rfl Try.func7 (by kernel_rfl) rfl #[.agg #[.int .i64 a0_0, .int .i64 a0_1, .slice A0_2 l0_2.length c0_2], .int .i64 1048576] rfl (by (try simp only [List.map_toArray, List.map_cons, List.map_nil]); first | done | rfl | (simp only [List.length_drop, List.length_take]; rfl)) ?_; (with_reducible refine (laws_szLand.calls a0_0 a0_1 _ _ l0_2 1048576 t419 _ ?side1 ?side2 A5.out).mono ?_); (case side1 => exact (Kd.C_below HR0_2.out (below_up HB.out))); (case side2 => exact HC0_2.out); rintro e w22 ⟨rfl, hb⟩; refine ⟨_, rfl, ?_⟩; have n0_ := Aside0.mk (blk_below (blk_up BK416.out) hb); have n1_ := Aside0.mk (blk_below (blk_up BK417.out) hb); have n2_ := Aside0.mk (blk_below (blk_up BK418.out) hb); have n3_ := Aside0.mk (below_step (by repeat (first | (with_reducible first | exact HB.out | apply below_alloc | apply pw_below_drewN | apply below_drew1 | refine below_set ?_ GE416.out | refine below_set ?_ GE417.out | refine below_set ?_ GE418.out) | exact HB.out)) hb); replace BK416 := n0_; replace BK417 := n1_; replace BK418 := n2_; replace HB := n3_; clear n0_ n1_ n2_ n3_; (try clear hb); (try clear hb2); (try clear hk); (try clear hi); have hnb23 := NB418_417.out; have hnc23 := NB417_418.out; obtain ⟨hcz24_0, hcz24_1, hcz24_2, hcz24_3⟩ := cells4_ BK418.out; obtain ⟨hfz24_0, hfz24_1, hfz24_2, hfz24_3⟩ := frz4_ BK418.out) | ((with_reducible refine gate_callee (f := 28) rfl ?_); refine goesL_ (some 21) rfl rfl Try.func28 (by kernel_rfl) rfl #[.agg #[.int .i64 a3_0, .int .i64 a3_1, .slice A3_2 l3_2.length c3_2, .slice A3_3 l3_3.length c3_3], .int .i64 t419] rfl (by (try simp only [List.map_toArray, List.map_cons, List.map_nil]); first | done | rfl | (simp only [List.length_drop, List.length_take]; rfl)) ?_; (with_reducible refine (laws_szParty.calls a3_0 a3_1 _ _ l3_2 _ _ l3_3 t419 t420 _ ?side1 ?side2 ?side3 ?side4 A14.out).mono ?_); (case side1 => exact (Kd.C_below HR3_2.out (below_up HB.out))); (case side2 => exact HC3_2.out); (case side3 => exact (Kd.C_below HR3_3.out (below_up HB.out))); (case side4 => exact HC3_3.out); rintro e w25 ⟨rfl, hb⟩; refine ⟨_, rfl, ?_⟩; have n0_ := Aside0.mk (blk_below (blk_up BK416.out) hb); have n1_ := Aside0.mk (blk_below (blk_up BK417.out) hb); have n2_ := Aside0.mk (blk_below (blk_up BK418.out) hb); have n3_ := Aside0.mk (below_step (by repeat (first | (with_reducible first | exact HB.out | apply below_alloc | apply pw_below_drewN | apply below_drew1 | refine below_set ?_ GE416.out | refine below_set ?_ GE417.out | refine below_set ?_ GE418.out) | exact HB.out)) hb); replace BK416 := n0_; replace BK417 := n1_; replace BK418 := n2_; replace HB := n3_; clear n0_ n1_ n2_ n3_; (try clear hb); (try clear hb2); (try clear hk); (try clear hi)))
   go_ret
   exact ⟨by first | rfl | (simp [errW_none, errW_some] <;> rfl) | (simp [*, errW_none, errW_some] <;> rfl), by repeat (first | (with_reducible first | exact HB.out | apply below_alloc | apply pw_below_drewN | apply below_drew1 | refine below_set ?_ GE416.out | refine below_set ?_ GE417.out | refine below_set ?_ GE418.out) | exact HB.out)⟩
 rw [if_neg c15] at H
 have c15b0 : decide (t420 < 0) = false := decide_eq_false c15
 clear c15
 replace H := Option.bind_eq_some_iff.mp H
 obtain ⟨⟨t421, t422, t423⟩, A260, H⟩ := H
 dsimp only at H
 have A26 := Aside0.mk A260
 clear A260
 replace H := Option.bind_eq_some_iff.mp H
 obtain ⟨⟨t426, t427⟩, A270, H⟩ := H
 dsimp only at H
 have A27 := Aside0.mk A270
 clear A270
 replace H := Option.bind_eq_some_iff.mp H
 obtain ⟨⟨t428, t429, t430, t433⟩, A280, H⟩ := H
 dsimp only at H
 have A28 := Aside0.mk A280
 clear A280
 replace H := Option.bind_eq_some_iff.mp H
 obtain ⟨t436, A290, H⟩ := H
 have A29 := Aside0.mk A290
 clear A290
 replace H := Option.bind_eq_some_iff.mp H
 obtain ⟨⟨t437, t438, t439⟩, A300, H⟩ := H
 dsimp only at H
 have A30 := Aside0.mk A300
 clear A300
 replace H := Option.bind_eq_some_iff.mp H
 obtain ⟨⟨t443, t444, t445, t448⟩, A310, H⟩ := H
 dsimp only at H
 have A31 := Aside0.mk A310
 clear A310
 replace H := Option.bind_eq_some_iff.mp H
 obtain ⟨⟨t452, t453⟩, A320, H⟩ := H
 dsimp only at H
 have A32 := Aside0.mk A320
 clear A320
 replace H := Option.bind_eq_some_iff.mp H
 obtain ⟨t454, A330, H⟩ := H
 have A33 := Aside0.mk A330
 clear A330
 by_cases c34 : t454 = t436
 rotate_left
 · rw [if_neg c34] at H
   have c34b0 : (t454 == t436) = false := beq_eq_false_iff_ne.mpr c34
   have c34b1 : (t454 != t436) = true := bne_iff_ne.mpr c34
   exact absurd H (by simp)
 rw [if_pos c34] at H
 have c34b0 : (t454 == t436) = true := beq_iff_eq.mpr c34
 have c34b1 : (t454 != t436) = false := bne_eq_false_iff_eq.mpr c34
 clear c34
 replace H := Option.bind_eq_some_iff.mp H
 obtain ⟨⟨t455, t456, t457⟩, A350, H⟩ := H
 dsimp only at H
 have A35 := Aside0.mk A350
 clear A350
 replace H := Option.bind_eq_some_iff.mp H
 obtain ⟨t460, A360, H⟩ := H
 have A36 := Aside0.mk A360
 clear A360
 by_cases c37 : t460 = true
 rotate_left
 · replace c37 := Bool.eq_false_iff.mpr c37
   subst c37
   rw [if_neg (show ¬ (false = true) by decide)] at H
   exact absurd H (by simp)
 subst c37
 rw [if_pos rfl] at H
 replace H := Option.bind_eq_some_iff.mp H
 obtain ⟨⟨t461, t462, t463, t466⟩, A380, H⟩ := H
 dsimp only at H
 have A38 := Aside0.mk A380
 clear A380
 replace H := Option.bind_eq_some_iff.mp H
 obtain ⟨t469, A390, H⟩ := H
 have A39 := Aside0.mk A390
 clear A390
 by_cases c40 : t469 = true
 rotate_left
 · replace c40 := Bool.eq_false_iff.mpr c40
   subst c40
   rw [if_neg (show ¬ (false = true) by decide)] at H
   exact absurd H (by simp)
 subst c40
 have H1 : (some true) = some true := rfl
 clear H
 have H := H1
 clear H1
 clear H
 go_enter Try.func6, Try.ntmps6
 try go_wp2_with (first | ((with_reducible refine gate_dst (N := 4) rfl ?_); refine box_event ?hg (N := 4) ?hd (cs := #[.int .i64 a0_0, .int .i64 a0_1, .slice A0_2 l0_2.length c0_2]) (t := 24) ?hr ?_; (case hd => rfl); (case hg => rfl); (case hr => first | (go_simp; done) | (go_simp; rfl)); intro gb416 hg w41 hbox hb; have n0_ := Aside0.mk (below_step (below_up HB.out) hb); have n1_ := Aside0.mk (hbox); have n2_ := Aside0.mk (szle hg HB.out); have n3_ := Aside0.mk (szle hg HB.out); replace HB := n0_; have BK416 := n1_; have GW416 := n2_; have GE416 := n3_; clear n0_ n1_ n2_ n3_; clear hb hbox hg) | ((with_reducible refine gate_dst (N := 6) rfl ?_); refine box_event ?hg (N := 6) ?hd (cs := #[.int .i64 a2_0, .int .i64 a2_1]) (t := 48) ?hr ?_; (case hd => rfl); (case hg => rfl); (case hr => first | (go_simp; done) | (go_simp; rfl)); intro gb417 hg w42 hbox hb; have n0_ := Aside0.mk (blk_below (blk_up BK416.out) hb); have n1_ := Aside0.mk (below_step (by repeat (first | (with_reducible first | exact HB.out | apply below_alloc | apply pw_below_drewN | apply below_drew1 | refine below_set ?_ GE416.out) | exact HB.out)) hb); have n2_ := Aside0.mk (hbox); have n3_ := Aside0.mk ((by rw [hg]; exact (below_size (by repeat (first | (with_reducible first | exact HB.out | apply below_alloc | apply pw_below_drewN | apply below_drew1 | refine below_set ?_ GE416.out) | exact HB.out))) : w.heap.size ≤ gb417)); have n4_ := Aside0.mk ((by rw [hg]; exact (below_size (by repeat (first | (with_reducible first | exact HB.out | apply below_alloc | apply pw_below_drewN | apply below_drew1 | refine below_set ?_ GE416.out) | exact HB.out))) : w.heap.size ≤ gb417)); have n5_ := Aside0.mk ((by rw [hg]; exact Nat.ne_of_lt (blk_lt (g := gb416) (o := .cells #[.int .i64 a0_0, .int .i64 a0_1, .slice A0_2 l0_2.length c0_2] 24 (0, 0)) (by (with_reducible repeat (first | refine blk_drewN ?_ _ | refine blk_drew ?_ | refine blk_alloc ?_ _)); exact BK416.out)) : gb416 ≠ gb417)); have n6_ := Aside0.mk ((by rw [hg]; exact Nat.ne_of_gt (blk_lt (g := gb416) (o := .cells #[.int .i64 a0_0, .int .i64 a0_1, .slice A0_2 l0_2.length c0_2] 24 (0, 0)) (by (with_reducible repeat (first | refine blk_drewN ?_ _ | refine blk_drew ?_ | refine blk_alloc ?_ _)); exact BK416.out)) : gb417 ≠ gb416)); replace BK416 := n0_; replace HB := n1_; have BK417 := n2_; have GW417 := n3_; have GE417 := n4_; have NB416_417 := n5_; have NB417_416 := n6_; clear n0_ n1_ n2_ n3_ n4_ n5_ n6_; clear hb hbox hg) | ((with_reducible refine gate_dst (N := 7) rfl ?_); refine box_event ?hg (N := 7) ?hd (cs := #[.int .i64 a3_0, .int .i64 a3_1, .slice A3_2 l3_2.length c3_2, .slice A3_3 l3_3.length c3_3]) (t := 52) ?hr ?_; (case hd => rfl); (case hg => rfl); (case hr => first | (go_simp; done) | (go_simp; rfl)); intro gb418 hg w43 hbox hb; have n0_ := Aside0.mk (blk_below (blk_up BK416.out) hb); have n1_ := Aside0.mk (blk_below (blk_up BK417.out) hb); have n2_ := Aside0.mk (below_step (by repeat (first | (with_reducible first | exact HB.out | apply below_alloc | apply pw_below_drewN | apply below_drew1 | refine below_set ?_ GE416.out | refine below_set ?_ GE417.out) | exact HB.out)) hb); have n3_ := Aside0.mk (hbox); have n4_ := Aside0.mk ((by rw [hg]; exact (below_size (by repeat (first | (with_reducible first | exact HB.out | apply below_alloc | apply pw_below_drewN | apply below_drew1 | refine below_set ?_ GE416.out | refine below_set ?_ GE417.out) | exact HB.out))) : w.heap.size ≤ gb418)); have n5_ := Aside0.mk ((by rw [hg]; exact (below_size (by repeat (first | (with_reducible first | exact HB.out | apply below_alloc | apply pw_below_drewN | apply below_drew1 | refine below_set ?_ GE416.out | refine below_set ?_ GE417.out) | exact HB.out))) : w.heap.size ≤ gb418)); have n6_ := Aside0.mk ((by rw [hg]; exact Nat.ne_of_lt (blk_lt (g := gb416) (o := .cells #[.int .i64 a0_0, .int .i64 a0_1, .slice A0_2 l0_2.length c0_2] 24 (0, 0)) (by (with_reducible repeat (first | refine blk_drewN ?_ _ | refine blk_drew ?_ | refine blk_alloc ?_ _)); exact BK416.out)) : gb416 ≠ gb418)); have n7_ := Aside0.mk ((by rw [hg]; exact Nat.ne_of_gt (blk_lt (g := gb416) (o := .cells #[.int .i64 a0_0, .int .i64 a0_1, .slice A0_2 l0_2.length c0_2] 24 (0, 0)) (by (with_reducible repeat (first | refine blk_drewN ?_ _ | refine blk_drew ?_ | refine blk_alloc ?_ _)); exact BK416.out)) : gb418 ≠ gb416)); have n8_ := Aside0.mk ((by rw [hg]; exact Nat.ne_of_lt (blk_lt (g := gb417) (o := .cells #[.int .i64 a2_0, .int .i64 a2_1] 48 (0, 0)) (by (with_reducible repeat (first | refine blk_drewN ?_ _ | refine blk_drew ?_ | refine blk_alloc ?_ _)); exact BK417.out)) : gb417 ≠ gb418)); have n9_ := Aside0.mk ((by rw [hg]; exact Nat.ne_of_gt (blk_lt (g := gb417) (o := .cells #[.int .i64 a2_0, .int .i64 a2_1] 48 (0, 0)) (by (with_reducible repeat (first | refine blk_drewN ?_ _ | refine blk_drew ?_ | refine blk_alloc ?_ _)); exact BK417.out)) : gb418 ≠ gb417)); replace BK416 := n0_; replace BK417 := n1_; replace HB := n2_; have BK418 := n3_; have GW418 := n4_; have GE418 := n5_; have NB416_418 := n6_; have NB418_416 := n7_; have NB417_418 := n8_; have NB418_417 := n9_; clear n0_ n1_ n2_ n3_ n4_ n5_ n6_ n7_ n8_ n9_; clear hb hbox hg; have hnb44 := NB416_417.out; have hnc44 := NB417_416.out; have hnb45 := NB416_418.out; have hnc45 := NB418_416.out; obtain ⟨hcz46_0, hcz46_1, hcz46_2⟩ := cells3_ BK416.out; obtain ⟨hfz46_0, hfz46_1, hfz46_2⟩ := frz3_ BK416.out) | ((with_reducible refine gate_callee (f := 7) rfl ?_); refine goesL_ (some 16) rfl rfl Try.func7 (by kernel_rfl) rfl #[.agg #[.int .i64 a0_0, .int .i64 a0_1, .slice A0_2 l0_2.length c0_2], .int .i64 1048576] rfl (by (try simp only [List.map_toArray, List.map_cons, List.map_nil]); first | done | rfl | (simp only [List.length_drop, List.length_take]; rfl)) ?_; (with_reducible refine (laws_szLand.calls a0_0 a0_1 _ _ l0_2 1048576 t419 _ ?side1 ?side2 A5.out).mono ?_); (case side1 => exact (Kd.C_below HR0_2.out (below_up HB.out))); (case side2 => exact HC0_2.out); rintro e w47 ⟨rfl, hb⟩; refine ⟨_, rfl, ?_⟩; have n0_ := Aside0.mk (blk_below (blk_up BK416.out) hb); have n1_ := Aside0.mk (blk_below (blk_up BK417.out) hb); have n2_ := Aside0.mk (blk_below (blk_up BK418.out) hb); have n3_ := Aside0.mk (below_step (by repeat (first | (with_reducible first | exact HB.out | apply below_alloc | apply pw_below_drewN | apply below_drew1 | refine below_set ?_ GE416.out | refine below_set ?_ GE417.out | refine below_set ?_ GE418.out) | exact HB.out)) hb); replace BK416 := n0_; replace BK417 := n1_; replace BK418 := n2_; replace HB := n3_; clear n0_ n1_ n2_ n3_; (try clear hb); (try clear hb2); (try clear hk); (try clear hi); have hnb48 := NB418_417.out; have hnc48 := NB417_418.out; obtain ⟨hcz49_0, hcz49_1, hcz49_2, hcz49_3⟩ := cells4_ BK418.out; obtain ⟨hfz49_0, hfz49_1, hfz49_2, hfz49_3⟩ := frz4_ BK418.out) | ((with_reducible refine gate_callee (f := 28) rfl ?_); refine goesL_ (some 21) rfl rfl Try.func28 (by kernel_rfl) rfl #[.agg #[.int .i64 a3_0, .int .i64 a3_1, .slice A3_2 l3_2.length c3_2, .slice A3_3 l3_3.length c3_3], .int .i64 t419] rfl (by (try simp only [List.map_toArray, List.map_cons, List.map_nil]); first | done | rfl | (simp only [List.length_drop, List.length_take]; rfl)) ?_; (with_reducible refine (laws_szParty.calls a3_0 a3_1 _ _ l3_2 _ _ l3_3 t419 t420 _ ?side1 ?side2 ?side3 ?side4 A14.out).mono ?_); (case side1 => exact (Kd.C_below HR3_2.out (below_up HB.out))); (case side2 => exact HC3_2.out); (case side3 => exact (Kd.C_below HR3_3.out (below_up HB.out))); (case side4 => exact HC3_3.out); rintro e w50 ⟨rfl, hb⟩; refine ⟨_, rfl, ?_⟩; have n0_ := Aside0.mk (blk_below (blk_up BK416.out) hb); have n1_ := Aside0.mk (blk_below (blk_up BK417.out) hb); have n2_ := Aside0.mk (blk_below (blk_up BK418.out) hb); have n3_ := Aside0.mk (below_step (by repeat (first | (with_reducible first | exact HB.out | apply below_alloc | apply pw_below_drewN | apply below_drew1 | refine below_set ?_ GE416.out | refine below_set ?_ GE417.out | refine below_set ?_ GE418.out) | exact HB.out)) hb); replace BK416 := n0_; replace BK417 := n1_; replace BK418 := n2_; replace HB := n3_; clear n0_ n1_ n2_ n3_; (try clear hb); (try clear hb2); (try clear hk); (try clear hi)))
 have n0_ := Aside0.mk (blk_drew BK416.out)
 have n1_ := Aside0.mk (blk_drew BK417.out)
 have n2_ := Aside0.mk (blk_drew BK418.out)
 have n3_ := Aside0.mk (below_drew1 HB.out)
 clear BK416
 clear BK417
 clear BK418
 clear HB
 have BK416 := n0_
 have BK417 := n1_
 have BK418 := n2_
 have HB := n3_
 clear n0_ n1_ n2_ n3_
 refine start_ (n := 9) (S := fun w' => w'.cell? ⟨gb416, 0, none⟩ = some (.int .i64 a0_0) ∧ w'.cell? ⟨gb416, 1, none⟩ = some (.int .i64 a0_1) ∧ w'.cell? ⟨gb416, 2, none⟩ = some (.slice A0_2 l0_2.length c0_2) ∧ w'.cell? ⟨gb417, 0, none⟩ = some (.int .i64 a2_0) ∧ w'.cell? ⟨gb417, 1, none⟩ = some (.int .i64 a2_1) ∧ w'.cell? ⟨gb418, 0, none⟩ = some (.int .i64 a3_0) ∧ w'.cell? ⟨gb418, 1, none⟩ = some (.int .i64 a3_1) ∧ w'.cell? ⟨gb418, 2, none⟩ = some (.slice A3_2 l3_2.length c3_2) ∧ w'.cell? ⟨gb418, 3, none⟩ = some (.slice A3_3 l3_3.length c3_3)) (ds := []) (ar 9 0 []) (by kernel_rfl) rfl rfl ⟨(blk_cell BK416.out 0).trans rfl, (blk_cell BK416.out 1).trans rfl, (blk_cell BK416.out 2).trans rfl, (blk_cell BK417.out 0).trans rfl, (blk_cell BK417.out 1).trans rfl, (blk_cell BK418.out 0).trans rfl, (blk_cell BK418.out 1).trans rfl, (blk_cell BK418.out 2).trans rfl, (blk_cell BK418.out 3).trans rfl⟩ (fun hHeld => ?_); refine with_tabW laws_FnExactNeedHome.tab8 laws_FnExactNeedHome.bits8 (fun HT_ HW_ => ?_)
 generalize w50.drew = w51 at BK416 BK417 BK418 HB hHeld ⊢
 refine pu_ (i := 2) (N := 26) (v := ?_) (a' := ?_) (ar 9 3 [0, 1]) rfl rfl (any_of HT_.out (by kernel_rfl)) ?_ ?_ ?_
 rotate_left
 · intro w'
   go_simp
   with_reducible rfl
 rotate_left
 · simp only [puts_]
   rfl
 refine tk_ (i := 0) (N := 24) (v := ?_) (a' := ?_) (ar 9 3 [1]) rfl rfl (take_ofW HT_.out HW_.out (by kernel_rfl)) ?_ hHeld ?_ ?_
 rotate_left
 · rintro w' ⟨s0, s1, s2, s3, s4, s5, s6, s7, s8⟩
   go_simp
   with_reducible rfl
 rotate_left
 · simp only [puts_]
   rfl
 refine tk_ (i := 3) (N := 27) (v := ?_) (a' := ?_) (ar 9 4 [1]) rfl rfl (take_ofW HT_.out HW_.out (by kernel_rfl)) ?_ hHeld ?_ ?_
 rotate_left
 · rintro w' ⟨s0, s1, s2, s3, s4, s5, s6, s7, s8⟩
   go_simp
   with_reducible rfl
 rotate_left
 · simp only [puts_]
   rfl
 refine tk_ (i := 5) (N := 29) (v := ?_) (a' := ?_) (ar 9 6 [1, 4]) rfl rfl (take_ofW HT_.out HW_.out (by kernel_rfl)) ?_ hHeld ?_ ?_
 rotate_left
 · rintro w' ⟨s0, s1, s2, s3, s4, s5, s6, s7, s8⟩
   go_simp
   with_reducible rfl
 rotate_left
 · simp only [puts_]
   rfl
 refine one_ (i := 1) (N := some 25) (ar 9 6 [4]) rfl rfl (one_of HT_.out (by kernel_rfl)) (by decide) (fun K hK => ?_)
 refine goes_ Try.func9 (by kernel_rfl) rfl #[.agg #[.int .i64 a0_0, .int .i64 a0_1, .slice A0_2 l0_2.length c0_2]] (by rfl) rfl rfl (by (try simp only [List.map_toArray, List.map_cons, List.map_nil]); first | done | rfl | (simp only [List.length_drop, List.length_take]; rfl)) ?_
 with_reducible refine (laws_toLand.calls k a0_0 a0_1 _ _ l0_2 t421 t422 t423 _ ?side1 ?side2 A26.out).mono ?_
 (case side1 => exact (Kd.C_below HR0_2.out (below_up HB.out)))
 (case side2 => exact HC0_2.out)
 rintro e w52 ⟨v424, rfl, ho0, hb⟩
 refine ⟨_, rfl, ?_⟩
 have n0_ := Aside0.mk (Kd.R_lower ho0 (below_size (by repeat (first | (with_reducible first | exact HB.out | apply below_alloc | apply pw_below_drewN | apply below_drew1 | refine below_set ?_ GE416.out | refine below_set ?_ GE417.out | refine below_set ?_ GE418.out) | exact HB.out))))
 have n1_ := Aside0.mk (blk_below (blk_up BK416.out) hb)
 have n2_ := Aside0.mk (blk_below (blk_up BK417.out) hb)
 have n3_ := Aside0.mk (blk_below (blk_up BK418.out) hb)
 have n4_ := Aside0.mk (below_step (by repeat (first | (with_reducible first | exact HB.out | apply below_alloc | apply pw_below_drewN | apply below_drew1 | refine below_set ?_ GE416.out | refine below_set ?_ GE417.out | refine below_set ?_ GE418.out) | exact HB.out)) hb)
 clear BK416
 clear BK417
 clear BK418
 clear HB
 have HO425 := n0_
 have BK416 := n1_
 have BK417 := n2_
 have BK418 := n3_
 have HB := n4_
 clear n0_ n1_ n2_ n3_ n4_
 (try clear hb)
 (try clear hb2)
 (try clear hk)
 (try clear hi)
 (try clear ho0)
 refine hK.out _ _ ⟨(blk_cell BK416.out 0).trans rfl, (blk_cell BK416.out 1).trans rfl, (blk_cell BK416.out 2).trans rfl, (blk_cell BK417.out 0).trans rfl, (blk_cell BK417.out 1).trans rfl, (blk_cell BK418.out 0).trans rfl, (blk_cell BK418.out 1).trans rfl, (blk_cell BK418.out 2).trans rfl, (blk_cell BK418.out 3).trans rfl⟩ (fun hHeld => ?_)
 clear hK K
 refine norm_ (a' := ?_) ?_ ?_
 rotate_left
 · show Act.put _ (some 25) _ = _
   simp only [puts_]
   rfl
 refine one_ (i := 4) (N := some 28) (ar 9 6 []) rfl rfl (one_of HT_.out (by kernel_rfl)) (by decide) (fun K hK => ?_)
 refine goes_ Try.func30 (by kernel_rfl) rfl #[.agg #[.int .i64 a2_0, .int .i64 a2_1]] (by rfl) rfl rfl (by (try simp only [List.map_toArray, List.map_cons, List.map_nil]); first | done | rfl | (simp only [List.length_drop, List.length_take]; rfl)) ?_
 with_reducible refine (laws_toRule.calls a2_0 a2_1 t426 t427 _ A27.out).mono ?_
 rintro e w53 ⟨rfl, hb⟩
 refine ⟨_, rfl, ?_⟩
 have n0_ := Aside0.mk (Kd.R_below (Kd.R_up HO425.out) hb)
 have n1_ := Aside0.mk (blk_below (blk_up BK416.out) hb)
 have n2_ := Aside0.mk (blk_below (blk_up BK417.out) hb)
 have n3_ := Aside0.mk (blk_below (blk_up BK418.out) hb)
 have n4_ := Aside0.mk (below_step (by repeat (first | (with_reducible first | exact HB.out | apply below_alloc | apply pw_below_drewN | apply below_drew1 | refine below_set ?_ GE416.out | refine below_set ?_ GE417.out | refine below_set ?_ GE418.out) | exact HB.out)) hb)
 clear HO425
 clear BK416
 clear BK417
 clear BK418
 clear HB
 have HO425 := n0_
 have BK416 := n1_
 have BK417 := n2_
 have BK418 := n3_
 have HB := n4_
 clear n0_ n1_ n2_ n3_ n4_
 (try clear hb)
 (try clear hb2)
 (try clear hk)
 (try clear hi)
 refine hK.out _ _ ⟨(blk_cell BK416.out 0).trans rfl, (blk_cell BK416.out 1).trans rfl, (blk_cell BK416.out 2).trans rfl, (blk_cell BK417.out 0).trans rfl, (blk_cell BK417.out 1).trans rfl, (blk_cell BK418.out 0).trans rfl, (blk_cell BK418.out 1).trans rfl, (blk_cell BK418.out 2).trans rfl, (blk_cell BK418.out 3).trans rfl⟩ (fun hHeld => ?_)
 clear hK K
 refine norm_ (a' := ?_) ?_ ?_
 rotate_left
 · show Act.put _ (some 28) _ = _
   simp only [puts_]
   rfl
 refine one_ (i := 6) (N := some 30) (ar 9 7 []) rfl rfl (one_of HT_.out (by kernel_rfl)) (by decide) (fun K hK => ?_)
 refine goes_ Try.func31 (by kernel_rfl) rfl #[.agg #[.int .i64 a3_0, .int .i64 a3_1, .slice A3_2 l3_2.length c3_2, .slice A3_3 l3_3.length c3_3]] (by rfl) rfl rfl (by (try simp only [List.map_toArray, List.map_cons, List.map_nil]); first | done | rfl | (simp only [List.length_drop, List.length_take]; rfl)) ?_
 with_reducible refine (laws_toParty.calls k a3_0 a3_1 _ _ l3_2 _ _ l3_3 t428 t429 t430 t433 _ ?side1 ?side2 ?side3 ?side4 A28.out).mono ?_
 (case side1 => exact (Kd.C_below HR3_2.out (below_up HB.out)))
 (case side2 => exact HC3_2.out)
 (case side3 => exact (Kd.C_below HR3_3.out (below_up HB.out)))
 (case side4 => exact HC3_3.out)
 rintro e w54 ⟨v431, v434, rfl, ho0, ho1, hb⟩
 refine ⟨_, rfl, ?_⟩
 have n0_ := Aside0.mk (Kd.R_below (Kd.R_up HO425.out) hb)
 have n1_ := Aside0.mk (Kd.R_lower ho0 (below_size (by repeat (first | (with_reducible first | exact HB.out | apply below_alloc | apply pw_below_drewN | apply below_drew1 | refine below_set ?_ GE416.out | refine below_set ?_ GE417.out | refine below_set ?_ GE418.out) | exact HB.out))))
 have n2_ := Aside0.mk (Kd.R_lower ho1 (below_size (by repeat (first | (with_reducible first | exact HB.out | apply below_alloc | apply pw_below_drewN | apply below_drew1 | refine below_set ?_ GE416.out | refine below_set ?_ GE417.out | refine below_set ?_ GE418.out) | exact HB.out))))
 have n3_ := Aside0.mk (blk_below (blk_up BK416.out) hb)
 have n4_ := Aside0.mk (blk_below (blk_up BK417.out) hb)
 have n5_ := Aside0.mk (blk_below (blk_up BK418.out) hb)
 have n6_ := Aside0.mk (below_step (by repeat (first | (with_reducible first | exact HB.out | apply below_alloc | apply pw_below_drewN | apply below_drew1 | refine below_set ?_ GE416.out | refine below_set ?_ GE417.out | refine below_set ?_ GE418.out) | exact HB.out)) hb)
 clear HO425
 clear BK416
 clear BK417
 clear BK418
 clear HB
 have HO425 := n0_
 have HO432 := n1_
 have HO435 := n2_
 have BK416 := n3_
 have BK417 := n4_
 have BK418 := n5_
 have HB := n6_
 clear n0_ n1_ n2_ n3_ n4_ n5_ n6_
 (try clear hb)
 (try clear hb2)
 (try clear hk)
 (try clear hi)
 (try clear ho0)
 (try clear ho1)
 obtain ⟨Ao55, co55, eo55⟩ := Kd.R_slice HO425.out
 (first | subst eo55 | (injection eo55 with f1_ f2_ f3_; have f4_ := f1_.symm; have f5_ := f3_.symm; clear f1_ f2_ f3_; subst f4_; subst f5_))
 obtain ⟨Ao56, co56, eo56⟩ := Kd.R_slice HO432.out
 (first | subst eo56 | (injection eo56 with f1_ f2_ f3_; have f4_ := f1_.symm; have f5_ := f3_.symm; clear f1_ f2_ f3_; subst f4_; subst f5_))
 obtain ⟨Ao57, co57, eo57⟩ := Kd.R_slice HO435.out
 (first | subst eo57 | (injection eo57 with f1_ f2_ f3_; have f4_ := f1_.symm; have f5_ := f3_.symm; clear f1_ f2_ f3_; subst f4_; subst f5_))
 refine hK.out _ _ ⟨(blk_cell BK416.out 0).trans rfl, (blk_cell BK416.out 1).trans rfl, (blk_cell BK416.out 2).trans rfl, (blk_cell BK417.out 0).trans rfl, (blk_cell BK417.out 1).trans rfl, (blk_cell BK418.out 0).trans rfl, (blk_cell BK418.out 1).trans rfl, (blk_cell BK418.out 2).trans rfl, (blk_cell BK418.out 3).trans rfl⟩ (fun hHeld => ?_)
 clear hK K
 refine norm_ (a' := ?_) ?_ ?_
 rotate_left
 · show Act.put _ (some 30) _ = _
   simp only [puts_]
   rfl
 refine one_ (i := 7) (N := some 31) (ar 9 8 []) rfl rfl (one_of HT_.out (by kernel_rfl)) (by decide) (fun K hK => ?_)
 refine goes_ Try.func29 (by kernel_rfl) rfl #[.agg #[.int .i64 t421, .int .i64 t422, .slice Ao55 t423.length co55], .int .i64 a1, .agg #[.int .i64 t426, .int .i64 t427], .agg #[.int .i64 t428, .int .i64 t429, .slice Ao56 t430.length co56, .slice Ao57 t433.length co57]] (by rfl) rfl rfl (by (try simp only [List.map_toArray, List.map_cons, List.map_nil]); first | done | rfl | (simp only [List.length_drop, List.length_take]; rfl)) ?_
 with_reducible refine (spec_NeedHome.calls k t421 t422 _ _ t423 a1 t426 t427 t428 t429 _ _ t430 _ _ t433 t436 _ ?side1 ?side2 ?side3 ?side4 ?side5 ?side6 A29.out).mono ?_
 (case side1 => exact Kd.C_up ((Kd.R_reads' HO425.out).2.2))
 (case side2 => exact (Kd.R_reads' HO425.out).2.1)
 (case side3 => exact Kd.C_up ((Kd.R_reads' HO432.out).2.2))
 (case side4 => exact (Kd.R_reads' HO432.out).2.1)
 (case side5 => exact Kd.C_up ((Kd.R_reads' HO435.out).2.2))
 (case side6 => exact (Kd.R_reads' HO435.out).2.1)
 rintro e w58 ⟨rfl, hb⟩
 refine ⟨_, rfl, ?_⟩
 have n0_ := Aside0.mk (Kd.R_below (Kd.R_up HO425.out) hb)
 have n1_ := Aside0.mk (Kd.R_below (Kd.R_up HO432.out) hb)
 have n2_ := Aside0.mk (Kd.R_below (Kd.R_up HO435.out) hb)
 have n3_ := Aside0.mk (blk_below (blk_up BK416.out) hb)
 have n4_ := Aside0.mk (blk_below (blk_up BK417.out) hb)
 have n5_ := Aside0.mk (blk_below (blk_up BK418.out) hb)
 have n6_ := Aside0.mk (below_step (by repeat (first | (with_reducible first | exact HB.out | apply below_alloc | apply pw_below_drewN | apply below_drew1 | refine below_set ?_ GE416.out | refine below_set ?_ GE417.out | refine below_set ?_ GE418.out) | exact HB.out)) hb)
 clear HO425
 clear HO432
 clear HO435
 clear BK416
 clear BK417
 clear BK418
 clear HB
 have HO425 := n0_
 have HO432 := n1_
 have HO435 := n2_
 have BK416 := n3_
 have BK417 := n4_
 have BK418 := n5_
 have HB := n6_
 clear n0_ n1_ n2_ n3_ n4_ n5_ n6_
 (try clear hb)
 (try clear hb2)
 (try clear hk)
 (try clear hi)
 refine hK.out _ _ ⟨(blk_cell BK416.out 0).trans rfl, (blk_cell BK416.out 1).trans rfl, (blk_cell BK416.out 2).trans rfl, (blk_cell BK417.out 0).trans rfl, (blk_cell BK417.out 1).trans rfl, (blk_cell BK418.out 0).trans rfl, (blk_cell BK418.out 1).trans rfl, (blk_cell BK418.out 2).trans rfl, (blk_cell BK418.out 3).trans rfl⟩ (fun hHeld => ?_)
 clear hK K
 refine norm_ (a' := ?_) ?_ ?_
 rotate_left
 · show Act.put _ (some 31) _ = _
   simp only [puts_]
   rfl
 refine pu_ (i := 8) (N := 10) (v := ?_) (a' := ?_) (ar 9 9 []) rfl rfl (any_of HT_.out (by kernel_rfl)) ?_ ?_ ?_
 rotate_left
 · intro w'
   go_simp
   with_reducible rfl
 rotate_left
 · simp only [puts_]
   rfl
 refine done_ (done_of HT_.out (by kernel_rfl)) ?_
 obtain ⟨hcz59_0, hcz59_1, hcz59_2⟩ := cells3_ BK416.out
 obtain ⟨hfz59_0, hfz59_1, hfz59_2⟩ := frz3_ BK416.out
 try go_wp2_with (first | ((with_reducible refine gate_callee (f := 9) rfl ?_); refine goesL_ (some 33) rfl rfl Try.func9 (by kernel_rfl) rfl #[.agg #[.int .i64 a0_0, .int .i64 a0_1, .slice A0_2 l0_2.length c0_2]] rfl (by (try simp only [List.map_toArray, List.map_cons, List.map_nil]); first | done | rfl | (simp only [List.length_drop, List.length_take]; rfl)) ?_; (with_reducible refine (laws_toLand.calls k a0_0 a0_1 _ _ l0_2 t437 t438 t439 _ ?side1 ?side2 A30.out).mono ?_); (case side1 => exact (Kd.C_below HR0_2.out (below_up HB.out))); (case side2 => exact HC0_2.out); rintro e w60 ⟨v440, rfl, ho0, hb⟩; refine ⟨_, rfl, ?_⟩; have n0_ := Aside0.mk (Kd.R_elder' (Kd.R_up HO425.out) (Kd.R_base ho0) hb); have n1_ := Aside0.mk (Kd.R_below (Kd.R_up HO432.out) hb); have n2_ := Aside0.mk (Kd.R_below (Kd.R_up HO435.out) hb); have n3_ := Aside0.mk (Kd.R_lower (Kd.R_new' ho0 (Kd.R_lt (Kd.R_up HO425.out))) (below_size (by repeat (first | (with_reducible first | exact HB.out | apply below_alloc | apply pw_below_drewN | apply below_drew1 | refine below_set ?_ GE416.out | refine below_set ?_ GE417.out | refine below_set ?_ GE418.out) | exact HB.out)))); have n4_ := Aside0.mk (blk_below (blk_up BK416.out) hb); have n5_ := Aside0.mk (blk_below (blk_up BK417.out) hb); have n6_ := Aside0.mk (blk_below (blk_up BK418.out) hb); have n7_ := Aside0.mk (below_step (by repeat (first | (with_reducible first | exact HB.out | apply below_alloc | apply pw_below_drewN | apply below_drew1 | refine below_set ?_ GE416.out | refine below_set ?_ GE417.out | refine below_set ?_ GE418.out) | exact HB.out)) hb); replace HO425 := n0_; replace HO432 := n1_; replace HO435 := n2_; have HO441 := n3_; replace BK416 := n4_; replace BK417 := n5_; replace BK418 := n6_; replace HB := n7_; clear n0_ n1_ n2_ n3_ n4_ n5_ n6_ n7_; (try clear hb); (try clear hb2); (try clear hk); (try clear hi); (try clear ho0)) | ((with_reducible refine gate_dst (N := 11) rfl ?_); refine box_event ?hg (N := 11) ?hd (cs := #[.int .i64 0, .int .i64 0, .slice none 0 0]) (t := 27) ?hr ?_; (case hd => rfl); (case hg => rfl); (case hr => first | (go_simp; done) | (go_simp; rfl)); intro gb442 hg w61 hbox hb; have n0_ := Aside0.mk (Kd.R_below (Kd.R_up HO425.out) hb); have n1_ := Aside0.mk (Kd.R_below (Kd.R_up HO432.out) hb); have n2_ := Aside0.mk (Kd.R_below (Kd.R_up HO435.out) hb); have n3_ := Aside0.mk (Kd.R_below (Kd.R_up HO441.out) hb); have n4_ := Aside0.mk (blk_below (blk_up BK416.out) hb); have n5_ := Aside0.mk (blk_below (blk_up BK417.out) hb); have n6_ := Aside0.mk (blk_below (blk_up BK418.out) hb); have n7_ := Aside0.mk (below_step (by repeat (first | (with_reducible first | exact HB.out | apply below_alloc | apply pw_below_drewN | apply below_drew1 | refine below_set ?_ GE416.out | refine below_set ?_ GE417.out | refine below_set ?_ GE418.out) | exact HB.out)) hb); have n8_ := Aside0.mk (hbox); have n9_ := Aside0.mk ((by rw [hg]; exact (below_size (by repeat (first | (with_reducible first | exact HB.out | apply below_alloc | apply pw_below_drewN | apply below_drew1 | refine below_set ?_ GE416.out | refine below_set ?_ GE417.out | refine below_set ?_ GE418.out) | exact HB.out))) : w.heap.size ≤ gb442)); have n10_ := Aside0.mk ((by rw [hg]; exact (below_size (by repeat (first | (with_reducible first | exact HB.out | apply below_alloc | apply pw_below_drewN | apply below_drew1 | refine below_set ?_ GE416.out | refine below_set ?_ GE417.out | refine below_set ?_ GE418.out) | exact HB.out))) : w.heap.size ≤ gb442)); have n11_ := Aside0.mk ((by rw [hg]; exact Nat.ne_of_lt (blk_lt (g := gb416) (o := .cells #[.int .i64 a0_0, .int .i64 a0_1, .slice A0_2 l0_2.length c0_2] 24 (0, 0)) (by (with_reducible repeat (first | refine blk_drewN ?_ _ | refine blk_drew ?_ | refine blk_alloc ?_ _)); exact BK416.out)) : gb416 ≠ gb442)); have n12_ := Aside0.mk ((by rw [hg]; exact Nat.ne_of_gt (blk_lt (g := gb416) (o := .cells #[.int .i64 a0_0, .int .i64 a0_1, .slice A0_2 l0_2.length c0_2] 24 (0, 0)) (by (with_reducible repeat (first | refine blk_drewN ?_ _ | refine blk_drew ?_ | refine blk_alloc ?_ _)); exact BK416.out)) : gb442 ≠ gb416)); have n13_ := Aside0.mk ((by rw [hg]; exact Nat.ne_of_lt (blk_lt (g := gb417) (o := .cells #[.int .i64 a2_0, .int .i64 a2_1] 48 (0, 0)) (by (with_reducible repeat (first | refine blk_drewN ?_ _ | refine blk_drew ?_ | refine blk_alloc ?_ _)); exact BK417.out)) : gb417 ≠ gb442)); have n14_ := Aside0.mk ((by rw [hg]; exact Nat.ne_of_gt (blk_lt (g := gb417) (o := .cells #[.int .i64 a2_0, .int .i64 a2_1] 48 (0, 0)) (by (with_reducible repeat (first | refine blk_drewN ?_ _ | refine blk_drew ?_ | refine blk_alloc ?_ _)); exact BK417.out)) : gb442 ≠ gb417)); have n15_ := Aside0.mk ((by rw [hg]; exact Nat.ne_of_lt (blk_lt (g := gb418) (o := .cells #[.int .i64 a3_0, .int .i64 a3_1, .slice A3_2 l3_2.length c3_2, .slice A3_3 l3_3.length c3_3] 52 (0, 0)) (by (with_reducible repeat (first | refine blk_drewN ?_ _ | refine blk_drew ?_ | refine blk_alloc ?_ _)); exact BK418.out)) : gb418 ≠ gb442)); have n16_ := Aside0.mk ((by rw [hg]; exact Nat.ne_of_gt (blk_lt (g := gb418) (o := .cells #[.int .i64 a3_0, .int .i64 a3_1, .slice A3_2 l3_2.length c3_2, .slice A3_3 l3_3.length c3_3] 52 (0, 0)) (by (with_reducible repeat (first | refine blk_drewN ?_ _ | refine blk_drew ?_ | refine blk_alloc ?_ _)); exact BK418.out)) : gb442 ≠ gb418)); replace HO425 := n0_; replace HO432 := n1_; replace HO435 := n2_; replace HO441 := n3_; replace BK416 := n4_; replace BK417 := n5_; replace BK418 := n6_; replace HB := n7_; have BK442 := n8_; have GW442 := n9_; have GE442 := n10_; have NB416_442 := n11_; have NB442_416 := n12_; have NB417_442 := n13_; have NB442_417 := n14_; have NB418_442 := n15_; have NB442_418 := n16_; clear n0_ n1_ n2_ n3_ n4_ n5_ n6_ n7_ n8_ n9_ n10_ n11_ n12_ n13_ n14_ n15_ n16_; clear hb hbox hg; have hnb62 := NB442_416.out; have hnc62 := NB416_442.out; have hnb63 := NB442_417.out; have hnc63 := NB417_442.out; have hnb64 := NB442_418.out; have hnc64 := NB418_442.out; obtain ⟨hcz65_0, hcz65_1, hcz65_2⟩ := cells3_ BK442.out; obtain ⟨hfz65_0, hfz65_1, hfz65_2⟩ := frz3_ BK442.out; obtain ⟨Ao66, co66, eo66⟩ := Kd.R_slice HO441.out; subst eo66; obtain ⟨hcz67_0, hcz67_1, hcz67_2, hcz67_3⟩ := cells4_ BK418.out; obtain ⟨hfz67_0, hfz67_1, hfz67_2, hfz67_3⟩ := frz4_ BK418.out) | ((with_reducible refine gate_callee (f := 31) rfl ?_); refine goesL_ (some 35) rfl rfl Try.func31 (by kernel_rfl) rfl #[.agg #[.int .i64 a3_0, .int .i64 a3_1, .slice A3_2 l3_2.length c3_2, .slice A3_3 l3_3.length c3_3]] rfl (by (try simp only [List.map_toArray, List.map_cons, List.map_nil]); first | done | rfl | (simp only [List.length_drop, List.length_take]; rfl)) ?_; (with_reducible refine (laws_toParty.calls k a3_0 a3_1 _ _ l3_2 _ _ l3_3 t443 t444 t445 t448 _ ?side1 ?side2 ?side3 ?side4 A31.out).mono ?_); (case side1 => exact Kd.C_below HR3_2.out (by repeat (first | (with_reducible first | exact HB.out | apply below_alloc | apply pw_below_drewN | apply below_drew1 | refine below_set ?_ GE416.out | refine below_set ?_ GE417.out | refine below_set ?_ GE418.out | refine below_set ?_ GE442.out) | exact HB.out))); (case side2 => exact HC3_2.out); (case side3 => exact Kd.C_below HR3_3.out (by repeat (first | (with_reducible first | exact HB.out | apply below_alloc | apply pw_below_drewN | apply below_drew1 | refine below_set ?_ GE416.out | refine below_set ?_ GE417.out | refine below_set ?_ GE418.out | refine below_set ?_ GE442.out) | exact HB.out))); (case side4 => exact HC3_3.out); rintro e w68 ⟨v446, v449, rfl, ho0, ho1, hb⟩; refine ⟨_, rfl, ?_⟩; have n0_ := Aside0.mk (Kd.R_below (by (with_reducible repeat (first | apply Kd.R_alloc | apply Kd.R_drewN | apply Kd.R_drew)); exact (Kd.R_mono (Kd.R_far (p := ⟨gb442, 2, none⟩) (Kd.R_far (p := ⟨gb442, 1, none⟩) (Kd.R_far (p := ⟨gb442, 0, none⟩) (Kd.R_types HO425.out BK442.out (by decide)) (fun _ hk => hk.2) (.int .i64 t437)) (fun _ hk => hk.2) (.int .i64 t438)) (fun _ hk => hk.2) (.slice Ao66 t439.length co66)) (fun _ h_ => h_.1))) hb); have n1_ := Aside0.mk (Kd.R_elder' (by (with_reducible repeat (first | apply Kd.R_alloc | apply Kd.R_drewN | apply Kd.R_drew)); exact (Kd.R_mono (Kd.R_far (p := ⟨gb442, 2, none⟩) (Kd.R_far (p := ⟨gb442, 1, none⟩) (Kd.R_far (p := ⟨gb442, 0, none⟩) (Kd.R_types HO432.out BK442.out (by decide)) (fun _ hk => hk.2) (.int .i64 t437)) (fun _ hk => hk.2) (.int .i64 t438)) (fun _ hk => hk.2) (.slice Ao66 t439.length co66)) (fun _ h_ => h_.1))) (Kd.R_base ho0) hb); have n2_ := Aside0.mk (Kd.R_elder' (by (with_reducible repeat (first | apply Kd.R_alloc | apply Kd.R_drewN | apply Kd.R_drew)); exact (Kd.R_mono (Kd.R_far (p := ⟨gb442, 2, none⟩) (Kd.R_far (p := ⟨gb442, 1, none⟩) (Kd.R_far (p := ⟨gb442, 0, none⟩) (Kd.R_types HO435.out BK442.out (by decide)) (fun _ hk => hk.2) (.int .i64 t437)) (fun _ hk => hk.2) (.int .i64 t438)) (fun _ hk => hk.2) (.slice Ao66 t439.length co66)) (fun _ h_ => h_.1))) (Kd.R_base ho1) hb); have n3_ := Aside0.mk (Kd.R_below (by (with_reducible repeat (first | apply Kd.R_alloc | apply Kd.R_drewN | apply Kd.R_drew)); exact (Kd.R_mono (Kd.R_far (p := ⟨gb442, 2, none⟩) (Kd.R_far (p := ⟨gb442, 1, none⟩) (Kd.R_far (p := ⟨gb442, 0, none⟩) (Kd.R_types HO441.out BK442.out (by decide)) (fun _ hk => hk.2) (.int .i64 t437)) (fun _ hk => hk.2) (.int .i64 t438)) (fun _ hk => hk.2) (.slice Ao66 t439.length co66)) (fun _ h_ => h_.1))) hb); have n4_ := Aside0.mk (Kd.R_lower (Kd.R_new' ho0 (Kd.R_lt (by (with_reducible repeat (first | apply Kd.R_alloc | apply Kd.R_drewN | apply Kd.R_drew)); exact (Kd.R_mono (Kd.R_far (p := ⟨gb442, 2, none⟩) (Kd.R_far (p := ⟨gb442, 1, none⟩) (Kd.R_far (p := ⟨gb442, 0, none⟩) (Kd.R_types HO432.out BK442.out (by decide)) (fun _ hk => hk.2) (.int .i64 t437)) (fun _ hk => hk.2) (.int .i64 t438)) (fun _ hk => hk.2) (.slice Ao66 t439.length co66)) (fun _ h_ => h_.1))))) (below_size (by repeat (first | (with_reducible first | exact HB.out | apply below_alloc | apply pw_below_drewN | apply below_drew1 | refine below_set ?_ GE416.out | refine below_set ?_ GE417.out | refine below_set ?_ GE418.out | refine below_set ?_ GE442.out) | exact HB.out)))); have n5_ := Aside0.mk (Kd.R_lower (Kd.R_new' ho1 (Kd.R_lt (by (with_reducible repeat (first | apply Kd.R_alloc | apply Kd.R_drewN | apply Kd.R_drew)); exact (Kd.R_mono (Kd.R_far (p := ⟨gb442, 2, none⟩) (Kd.R_far (p := ⟨gb442, 1, none⟩) (Kd.R_far (p := ⟨gb442, 0, none⟩) (Kd.R_types HO435.out BK442.out (by decide)) (fun _ hk => hk.2) (.int .i64 t437)) (fun _ hk => hk.2) (.int .i64 t438)) (fun _ hk => hk.2) (.slice Ao66 t439.length co66)) (fun _ h_ => h_.1))))) (below_size (by repeat (first | (with_reducible first | exact HB.out | apply below_alloc | apply pw_below_drewN | apply below_drew1 | refine below_set ?_ GE416.out | refine below_set ?_ GE417.out | refine below_set ?_ GE418.out | refine below_set ?_ GE442.out) | exact HB.out)))); have n6_ := Aside0.mk (blk_below (g := gb416) (o := .cells #[.int .i64 a0_0, .int .i64 a0_1, .slice A0_2 l0_2.length c0_2] 24 (0, 0)) (by (with_reducible repeat (first | refine blk_drewN ?_ _ | refine blk_drew ?_ | refine blk_alloc ?_ _)); refine blk_far ?_ NB416_442.out _; (with_reducible repeat (first | refine blk_drewN ?_ _ | refine blk_drew ?_ | refine blk_alloc ?_ _)); refine blk_far ?_ NB416_442.out _; (with_reducible repeat (first | refine blk_drewN ?_ _ | refine blk_drew ?_ | refine blk_alloc ?_ _)); refine blk_far ?_ NB416_442.out _; (with_reducible repeat (first | refine blk_drewN ?_ _ | refine blk_drew ?_ | refine blk_alloc ?_ _)); exact BK416.out) hb); have n7_ := Aside0.mk (blk_below (g := gb417) (o := .cells #[.int .i64 a2_0, .int .i64 a2_1] 48 (0, 0)) (by (with_reducible repeat (first | refine blk_drewN ?_ _ | refine blk_drew ?_ | refine blk_alloc ?_ _)); refine blk_far ?_ NB417_442.out _; (with_reducible repeat (first | refine blk_drewN ?_ _ | refine blk_drew ?_ | refine blk_alloc ?_ _)); refine blk_far ?_ NB417_442.out _; (with_reducible repeat (first | refine blk_drewN ?_ _ | refine blk_drew ?_ | refine blk_alloc ?_ _)); refine blk_far ?_ NB417_442.out _; (with_reducible repeat (first | refine blk_drewN ?_ _ | refine blk_drew ?_ | refine blk_alloc ?_ _)); exact BK417.out) hb); have n8_ := Aside0.mk (blk_below (g := gb418) (o := .cells #[.int .i64 a3_0, .int .i64 a3_1, .slice A3_2 l3_2.length c3_2, .slice A3_3 l3_3.length c3_3] 52 (0, 0)) (by (with_reducible repeat (first | refine blk_drewN ?_ _ | refine blk_drew ?_ | refine blk_alloc ?_ _)); refine blk_far ?_ NB418_442.out _; (with_reducible repeat (first | refine blk_drewN ?_ _ | refine blk_drew ?_ | refine blk_alloc ?_ _)); refine blk_far ?_ NB418_442.out _; (with_reducible repeat (first | refine blk_drewN ?_ _ | refine blk_drew ?_ | refine blk_alloc ?_ _)); refine blk_far ?_ NB418_442.out _; (with_reducible repeat (first | refine blk_drewN ?_ _ | refine blk_drew ?_ | refine blk_alloc ?_ _)); exact BK418.out) hb); have n9_ := Aside0.mk (blk_below (g := gb442) (o := .cells #[.int .i64 t437, .int .i64 t438, .slice Ao66 t439.length co66] 27 (0, 0)) (by (with_reducible repeat (first | refine blk_drewN ?_ _ | refine blk_drew ?_ | refine blk_alloc ?_ _)); refine blk_put (cs := #[.int .i64 t437, .int .i64 t438, .slice none 0 0]) ?_ 2 _ rfl; (with_reducible repeat (first | refine blk_drewN ?_ _ | refine blk_drew ?_ | refine blk_alloc ?_ _)); refine blk_put (cs := #[.int .i64 t437, .int .i64 0, .slice none 0 0]) ?_ 1 _ rfl; (with_reducible repeat (first | refine blk_drewN ?_ _ | refine blk_drew ?_ | refine blk_alloc ?_ _)); refine blk_put (cs := #[.int .i64 0, .int .i64 0, .slice none 0 0]) ?_ 0 _ rfl; (with_reducible repeat (first | refine blk_drewN ?_ _ | refine blk_drew ?_ | refine blk_alloc ?_ _)); exact BK442.out) hb); have n10_ := Aside0.mk (below_step (by repeat (first | (with_reducible first | exact HB.out | apply below_alloc | apply pw_below_drewN | apply below_drew1 | refine below_set ?_ GE416.out | refine below_set ?_ GE417.out | refine below_set ?_ GE418.out | refine below_set ?_ GE442.out) | exact HB.out)) hb); replace HO425 := n0_; replace HO432 := n1_; replace HO435 := n2_; replace HO441 := n3_; have HO447 := n4_; have HO450 := n5_; replace BK416 := n6_; replace BK417 := n7_; replace BK418 := n8_; replace BK442 := n9_; replace HB := n10_; clear n0_ n1_ n2_ n3_ n4_ n5_ n6_ n7_ n8_ n9_ n10_; (try clear hb); (try clear hb2); (try clear hk); (try clear hi); (try clear ho0); (try clear ho1)) | ((with_reducible refine gate_dst (N := 12) rfl ?_); refine box_event ?hg (N := 12) ?hd (cs := #[.int .i64 0, .int .i64 0, .slice none 0 0, .slice none 0 0]) (t := 59) ?hr ?_; (case hd => rfl); (case hg => rfl); (case hr => first | (go_simp; done) | (go_simp; rfl)); intro gb451 hg w69 hbox hb; have n0_ := Aside0.mk (Kd.R_below (Kd.R_up HO425.out) hb); have n1_ := Aside0.mk (Kd.R_below (Kd.R_up HO432.out) hb); have n2_ := Aside0.mk (Kd.R_below (Kd.R_up HO435.out) hb); have n3_ := Aside0.mk (Kd.R_below (Kd.R_up HO441.out) hb); have n4_ := Aside0.mk (Kd.R_below (Kd.R_up HO447.out) hb); have n5_ := Aside0.mk (Kd.R_below (Kd.R_up HO450.out) hb); have n6_ := Aside0.mk (blk_below (blk_up BK416.out) hb); have n7_ := Aside0.mk (blk_below (blk_up BK417.out) hb); have n8_ := Aside0.mk (blk_below (blk_up BK418.out) hb); have n9_ := Aside0.mk (blk_below (blk_up BK442.out) hb); have n10_ := Aside0.mk (below_step (by repeat (first | (with_reducible first | exact HB.out | apply below_alloc | apply pw_below_drewN | apply below_drew1 | refine below_set ?_ GE416.out | refine below_set ?_ GE417.out | refine below_set ?_ GE418.out | refine below_set ?_ GE442.out) | exact HB.out)) hb); have n11_ := Aside0.mk (hbox); have n12_ := Aside0.mk ((by rw [hg]; exact (below_size (by repeat (first | (with_reducible first | exact HB.out | apply below_alloc | apply pw_below_drewN | apply below_drew1 | refine below_set ?_ GE416.out | refine below_set ?_ GE417.out | refine below_set ?_ GE418.out | refine below_set ?_ GE442.out) | exact HB.out))) : w.heap.size ≤ gb451)); have n13_ := Aside0.mk ((by rw [hg]; exact (below_size (by repeat (first | (with_reducible first | exact HB.out | apply below_alloc | apply pw_below_drewN | apply below_drew1 | refine below_set ?_ GE416.out | refine below_set ?_ GE417.out | refine below_set ?_ GE418.out | refine below_set ?_ GE442.out) | exact HB.out))) : w.heap.size ≤ gb451)); have n14_ := Aside0.mk ((by rw [hg]; exact Nat.ne_of_lt (blk_lt (g := gb416) (o := .cells #[.int .i64 a0_0, .int .i64 a0_1, .slice A0_2 l0_2.length c0_2] 24 (0, 0)) (by (with_reducible repeat (first | refine blk_drewN ?_ _ | refine blk_drew ?_ | refine blk_alloc ?_ _)); exact BK416.out)) : gb416 ≠ gb451)); have n15_ := Aside0.mk ((by rw [hg]; exact Nat.ne_of_gt (blk_lt (g := gb416) (o := .cells #[.int .i64 a0_0, .int .i64 a0_1, .slice A0_2 l0_2.length c0_2] 24 (0, 0)) (by (with_reducible repeat (first | refine blk_drewN ?_ _ | refine blk_drew ?_ | refine blk_alloc ?_ _)); exact BK416.out)) : gb451 ≠ gb416)); have n16_ := Aside0.mk ((by rw [hg]; exact Nat.ne_of_lt (blk_lt (g := gb417) (o := .cells #[.int .i64 a2_0, .int .i64 a2_1] 48 (0, 0)) (by (with_reducible repeat (first | refine blk_drewN ?_ _ | refine blk_drew ?_ | refine blk_alloc ?_ _)); exact BK417.out)) : gb417 ≠ gb451)); have n17_ := Aside0.mk ((by rw [hg]; exact Nat.ne_of_gt (blk_lt (g := gb417) (o := .cells #[.int .i64 a2_0, .int .i64 a2_1] 48 (0, 0)) (by (with_reducible repeat (first | refine blk_drewN ?_ _ | refine blk_drew ?_ | refine blk_alloc ?_ _)); exact BK417.out)) : gb451 ≠ gb417)); have n18_ := Aside0.mk ((by rw [hg]; exact Nat.ne_of_lt (blk_lt (g := gb418) (o := .cells #[.int .i64 a3_0, .int .i64 a3_1, .slice A3_2 l3_2.length c3_2, .slice A3_3 l3_3.length c3_3] 52 (0, 0)) (by (with_reducible repeat (first | refine blk_drewN ?_ _ | refine blk_drew ?_ | refine blk_alloc ?_ _)); exact BK418.out)) : gb418 ≠ gb451)); have n19_ := Aside0.mk ((by rw [hg]; exact Nat.ne_of_gt (blk_lt (g := gb418) (o := .cells #[.int .i64 a3_0, .int .i64 a3_1, .slice A3_2 l3_2.length c3_2, .slice A3_3 l3_3.length c3_3] 52 (0, 0)) (by (with_reducible repeat (first | refine blk_drewN ?_ _ | refine blk_drew ?_ | refine blk_alloc ?_ _)); exact BK418.out)) : gb451 ≠ gb418)); have n20_ := Aside0.mk ((by rw [hg]; exact Nat.ne_of_lt (blk_lt (g := gb442) (o := .cells #[.int .i64 t437, .int .i64 t438, .slice Ao66 t439.length co66] 27 (0, 0)) (by (with_reducible repeat (first | refine blk_drewN ?_ _ | refine blk_drew ?_ | refine blk_alloc ?_ _)); exact BK442.out)) : gb442 ≠ gb451)); have n21_ := Aside0.mk ((by rw [hg]; exact Nat.ne_of_gt (blk_lt (g := gb442) (o := .cells #[.int .i64 t437, .int .i64 t438, .slice Ao66 t439.length co66] 27 (0, 0)) (by (with_reducible repeat (first | refine blk_drewN ?_ _ | refine blk_drew ?_ | refine blk_alloc ?_ _)); exact BK442.out)) : gb451 ≠ gb442)); replace HO425 := n0_; replace HO432 := n1_; replace HO435 := n2_; replace HO441 := n3_; replace HO447 := n4_; replace HO450 := n5_; replace BK416 := n6_; replace BK417 := n7_; replace BK418 := n8_; replace BK442 := n9_; replace HB := n10_; have BK451 := n11_; have GW451 := n12_; have GE451 := n13_; have NB416_451 := n14_; have NB451_416 := n15_; have NB417_451 := n16_; have NB451_417 := n17_; have NB418_451 := n18_; have NB451_418 := n19_; have NB442_451 := n20_; have NB451_442 := n21_; clear n0_ n1_ n2_ n3_ n4_ n5_ n6_ n7_ n8_ n9_ n10_ n11_ n12_ n13_ n14_ n15_ n16_ n17_ n18_ n19_ n20_ n21_; clear hb hbox hg; have hnb70 := NB451_416.out; have hnc70 := NB416_451.out; have hnb71 := NB451_417.out; have hnc71 := NB417_451.out; have hnb72 := NB451_418.out; have hnc72 := NB418_451.out; have hnb73 := NB451_442.out; have hnc73 := NB442_451.out; obtain ⟨hcz74_0, hcz74_1, hcz74_2, hcz74_3⟩ := cells4_ BK451.out; obtain ⟨hfz74_0, hfz74_1, hfz74_2, hfz74_3⟩ := frz4_ BK451.out; obtain ⟨Ao75, co75, eo75⟩ := Kd.R_slice HO447.out; subst eo75; obtain ⟨Ao76, co76, eo76⟩ := Kd.R_slice HO450.out; subst eo76))
 have n0_ : Aside0 (Kd.R (Kd.int .i64) 3 ((((w69.setCell ⟨gb451, 0, none⟩ (.int .i64 t443)).setCell ⟨gb451, 1, none⟩ (.int .i64 t444)).setCell ⟨gb451, 2, none⟩ (.slice Ao75 t445.length co75)).setCell ⟨gb451, 3, none⟩ (.slice Ao76 t448.length co76)) w.heap.size (fun k_ => some k_ ≠ (.slice Ao66 t439.length co66 : Value).ownBlock) (.slice Ao55 t423.length co55) t423) := ⟨by (with_reducible repeat (first | apply Kd.R_alloc | apply Kd.R_drewN | apply Kd.R_drew)); exact Kd.R_mono (Kd.R_far (p := ⟨gb451, 3, none⟩) (Kd.R_far (p := ⟨gb451, 2, none⟩) (Kd.R_far (p := ⟨gb451, 1, none⟩) (Kd.R_far (p := ⟨gb451, 0, none⟩) (Kd.R_types HO425.out BK451.out (by decide)) (fun _ hk => hk.2) (.int .i64 t443)) (fun _ hk => hk.2) (.int .i64 t444)) (fun _ hk => hk.2) (.slice Ao75 t445.length co75)) (fun _ hk => hk.2) (.slice Ao76 t448.length co76)) (fun _ hk => hk.1.2)⟩
 have n1_ : Aside0 (Kd.R k95 95 ((((w69.setCell ⟨gb451, 0, none⟩ (.int .i64 t443)).setCell ⟨gb451, 1, none⟩ (.int .i64 t444)).setCell ⟨gb451, 2, none⟩ (.slice Ao75 t445.length co75)).setCell ⟨gb451, 3, none⟩ (.slice Ao76 t448.length co76)) w.heap.size (fun k_ => some k_ ≠ (.slice Ao75 t445.length co75 : Value).ownBlock) (.slice Ao56 t430.length co56) t430) := ⟨by (with_reducible repeat (first | apply Kd.R_alloc | apply Kd.R_drewN | apply Kd.R_drew)); exact Kd.R_mono (Kd.R_far (p := ⟨gb451, 3, none⟩) (Kd.R_far (p := ⟨gb451, 2, none⟩) (Kd.R_far (p := ⟨gb451, 1, none⟩) (Kd.R_far (p := ⟨gb451, 0, none⟩) (Kd.R_types HO432.out BK451.out (by decide)) (fun _ hk => hk.2) (.int .i64 t443)) (fun _ hk => hk.2) (.int .i64 t444)) (fun _ hk => hk.2) (.slice Ao75 t445.length co75)) (fun _ hk => hk.2) (.slice Ao76 t448.length co76)) (fun _ hk => hk.1.2)⟩
 have n2_ : Aside0 (Kd.R Kd.bool 4 ((((w69.setCell ⟨gb451, 0, none⟩ (.int .i64 t443)).setCell ⟨gb451, 1, none⟩ (.int .i64 t444)).setCell ⟨gb451, 2, none⟩ (.slice Ao75 t445.length co75)).setCell ⟨gb451, 3, none⟩ (.slice Ao76 t448.length co76)) w.heap.size (fun k_ => some k_ ≠ (.slice Ao76 t448.length co76 : Value).ownBlock) (.slice Ao57 t433.length co57) t433) := ⟨by (with_reducible repeat (first | apply Kd.R_alloc | apply Kd.R_drewN | apply Kd.R_drew)); exact Kd.R_mono (Kd.R_far (p := ⟨gb451, 3, none⟩) (Kd.R_far (p := ⟨gb451, 2, none⟩) (Kd.R_far (p := ⟨gb451, 1, none⟩) (Kd.R_far (p := ⟨gb451, 0, none⟩) (Kd.R_types HO435.out BK451.out (by decide)) (fun _ hk => hk.2) (.int .i64 t443)) (fun _ hk => hk.2) (.int .i64 t444)) (fun _ hk => hk.2) (.slice Ao75 t445.length co75)) (fun _ hk => hk.2) (.slice Ao76 t448.length co76)) (fun _ hk => hk.1.2)⟩
 have n3_ : Aside0 (Kd.R (Kd.int .i64) 3 ((((w69.setCell ⟨gb451, 0, none⟩ (.int .i64 t443)).setCell ⟨gb451, 1, none⟩ (.int .i64 t444)).setCell ⟨gb451, 2, none⟩ (.slice Ao75 t445.length co75)).setCell ⟨gb451, 3, none⟩ (.slice Ao76 t448.length co76)) w.heap.size (fun k_ => some k_ ≠ (.slice Ao55 t423.length co55 : Value).ownBlock) (.slice Ao66 t439.length co66) t439) := ⟨by (with_reducible repeat (first | apply Kd.R_alloc | apply Kd.R_drewN | apply Kd.R_drew)); exact Kd.R_mono (Kd.R_far (p := ⟨gb451, 3, none⟩) (Kd.R_far (p := ⟨gb451, 2, none⟩) (Kd.R_far (p := ⟨gb451, 1, none⟩) (Kd.R_far (p := ⟨gb451, 0, none⟩) (Kd.R_types HO441.out BK451.out (by decide)) (fun _ hk => hk.2) (.int .i64 t443)) (fun _ hk => hk.2) (.int .i64 t444)) (fun _ hk => hk.2) (.slice Ao75 t445.length co75)) (fun _ hk => hk.2) (.slice Ao76 t448.length co76)) (fun _ hk => hk.1.2)⟩
 have n4_ : Aside0 (Kd.R k95 95 ((((w69.setCell ⟨gb451, 0, none⟩ (.int .i64 t443)).setCell ⟨gb451, 1, none⟩ (.int .i64 t444)).setCell ⟨gb451, 2, none⟩ (.slice Ao75 t445.length co75)).setCell ⟨gb451, 3, none⟩ (.slice Ao76 t448.length co76)) w.heap.size (fun k_ => some k_ ≠ (.slice Ao56 t430.length co56 : Value).ownBlock) (.slice Ao75 t445.length co75) t445) := ⟨by (with_reducible repeat (first | apply Kd.R_alloc | apply Kd.R_drewN | apply Kd.R_drew)); exact Kd.R_mono (Kd.R_far (p := ⟨gb451, 3, none⟩) (Kd.R_far (p := ⟨gb451, 2, none⟩) (Kd.R_far (p := ⟨gb451, 1, none⟩) (Kd.R_far (p := ⟨gb451, 0, none⟩) (Kd.R_types HO447.out BK451.out (by decide)) (fun _ hk => hk.2) (.int .i64 t443)) (fun _ hk => hk.2) (.int .i64 t444)) (fun _ hk => hk.2) (.slice Ao75 t445.length co75)) (fun _ hk => hk.2) (.slice Ao76 t448.length co76)) (fun _ hk => hk.1.2)⟩
 have n5_ : Aside0 (Kd.R Kd.bool 4 ((((w69.setCell ⟨gb451, 0, none⟩ (.int .i64 t443)).setCell ⟨gb451, 1, none⟩ (.int .i64 t444)).setCell ⟨gb451, 2, none⟩ (.slice Ao75 t445.length co75)).setCell ⟨gb451, 3, none⟩ (.slice Ao76 t448.length co76)) w.heap.size (fun k_ => some k_ ≠ (.slice Ao57 t433.length co57 : Value).ownBlock) (.slice Ao76 t448.length co76) t448) := ⟨by (with_reducible repeat (first | apply Kd.R_alloc | apply Kd.R_drewN | apply Kd.R_drew)); exact Kd.R_mono (Kd.R_far (p := ⟨gb451, 3, none⟩) (Kd.R_far (p := ⟨gb451, 2, none⟩) (Kd.R_far (p := ⟨gb451, 1, none⟩) (Kd.R_far (p := ⟨gb451, 0, none⟩) (Kd.R_types HO450.out BK451.out (by decide)) (fun _ hk => hk.2) (.int .i64 t443)) (fun _ hk => hk.2) (.int .i64 t444)) (fun _ hk => hk.2) (.slice Ao75 t445.length co75)) (fun _ hk => hk.2) (.slice Ao76 t448.length co76)) (fun _ hk => hk.1.2)⟩
 have n6_ : Aside0 (((((w69.setCell ⟨gb451, 0, none⟩ (.int .i64 t443)).setCell ⟨gb451, 1, none⟩ (.int .i64 t444)).setCell ⟨gb451, 2, none⟩ (.slice Ao75 t445.length co75)).setCell ⟨gb451, 3, none⟩ (.slice Ao76 t448.length co76)).heap[gb416]? = some (.cells #[.int .i64 a0_0, .int .i64 a0_1, .slice A0_2 l0_2.length c0_2] 24 (0, 0))) := ⟨by (with_reducible repeat (first | refine blk_drewN ?_ _ | refine blk_drew ?_ | refine blk_alloc ?_ _)); refine blk_far ?_ NB416_451.out _; (with_reducible repeat (first | refine blk_drewN ?_ _ | refine blk_drew ?_ | refine blk_alloc ?_ _)); refine blk_far ?_ NB416_451.out _; (with_reducible repeat (first | refine blk_drewN ?_ _ | refine blk_drew ?_ | refine blk_alloc ?_ _)); refine blk_far ?_ NB416_451.out _; (with_reducible repeat (first | refine blk_drewN ?_ _ | refine blk_drew ?_ | refine blk_alloc ?_ _)); refine blk_far ?_ NB416_451.out _; (with_reducible repeat (first | refine blk_drewN ?_ _ | refine blk_drew ?_ | refine blk_alloc ?_ _)); exact BK416.out⟩
 have n7_ : Aside0 (((((w69.setCell ⟨gb451, 0, none⟩ (.int .i64 t443)).setCell ⟨gb451, 1, none⟩ (.int .i64 t444)).setCell ⟨gb451, 2, none⟩ (.slice Ao75 t445.length co75)).setCell ⟨gb451, 3, none⟩ (.slice Ao76 t448.length co76)).heap[gb417]? = some (.cells #[.int .i64 a2_0, .int .i64 a2_1] 48 (0, 0))) := ⟨by (with_reducible repeat (first | refine blk_drewN ?_ _ | refine blk_drew ?_ | refine blk_alloc ?_ _)); refine blk_far ?_ NB417_451.out _; (with_reducible repeat (first | refine blk_drewN ?_ _ | refine blk_drew ?_ | refine blk_alloc ?_ _)); refine blk_far ?_ NB417_451.out _; (with_reducible repeat (first | refine blk_drewN ?_ _ | refine blk_drew ?_ | refine blk_alloc ?_ _)); refine blk_far ?_ NB417_451.out _; (with_reducible repeat (first | refine blk_drewN ?_ _ | refine blk_drew ?_ | refine blk_alloc ?_ _)); refine blk_far ?_ NB417_451.out _; (with_reducible repeat (first | refine blk_drewN ?_ _ | refine blk_drew ?_ | refine blk_alloc ?_ _)); exact BK417.out⟩
 have n8_ : Aside0 (((((w69.setCell ⟨gb451, 0, none⟩ (.int .i64 t443)).setCell ⟨gb451, 1, none⟩ (.int .i64 t444)).setCell ⟨gb451, 2, none⟩ (.slice Ao75 t445.length co75)).setCell ⟨gb451, 3, none⟩ (.slice Ao76 t448.length co76)).heap[gb418]? = some (.cells #[.int .i64 a3_0, .int .i64 a3_1, .slice A3_2 l3_2.length c3_2, .slice A3_3 l3_3.length c3_3] 52 (0, 0))) := ⟨by (with_reducible repeat (first | refine blk_drewN ?_ _ | refine blk_drew ?_ | refine blk_alloc ?_ _)); refine blk_far ?_ NB418_451.out _; (with_reducible repeat (first | refine blk_drewN ?_ _ | refine blk_drew ?_ | refine blk_alloc ?_ _)); refine blk_far ?_ NB418_451.out _; (with_reducible repeat (first | refine blk_drewN ?_ _ | refine blk_drew ?_ | refine blk_alloc ?_ _)); refine blk_far ?_ NB418_451.out _; (with_reducible repeat (first | refine blk_drewN ?_ _ | refine blk_drew ?_ | refine blk_alloc ?_ _)); refine blk_far ?_ NB418_451.out _; (with_reducible repeat (first | refine blk_drewN ?_ _ | refine blk_drew ?_ | refine blk_alloc ?_ _)); exact BK418.out⟩
 have n9_ : Aside0 (((((w69.setCell ⟨gb451, 0, none⟩ (.int .i64 t443)).setCell ⟨gb451, 1, none⟩ (.int .i64 t444)).setCell ⟨gb451, 2, none⟩ (.slice Ao75 t445.length co75)).setCell ⟨gb451, 3, none⟩ (.slice Ao76 t448.length co76)).heap[gb442]? = some (.cells #[.int .i64 t437, .int .i64 t438, .slice Ao66 t439.length co66] 27 (0, 0))) := ⟨by (with_reducible repeat (first | refine blk_drewN ?_ _ | refine blk_drew ?_ | refine blk_alloc ?_ _)); refine blk_far ?_ NB442_451.out _; (with_reducible repeat (first | refine blk_drewN ?_ _ | refine blk_drew ?_ | refine blk_alloc ?_ _)); refine blk_far ?_ NB442_451.out _; (with_reducible repeat (first | refine blk_drewN ?_ _ | refine blk_drew ?_ | refine blk_alloc ?_ _)); refine blk_far ?_ NB442_451.out _; (with_reducible repeat (first | refine blk_drewN ?_ _ | refine blk_drew ?_ | refine blk_alloc ?_ _)); refine blk_far ?_ NB442_451.out _; (with_reducible repeat (first | refine blk_drewN ?_ _ | refine blk_drew ?_ | refine blk_alloc ?_ _)); exact BK442.out⟩
 have n10_ : Aside0 (((((w69.setCell ⟨gb451, 0, none⟩ (.int .i64 t443)).setCell ⟨gb451, 1, none⟩ (.int .i64 t444)).setCell ⟨gb451, 2, none⟩ (.slice Ao75 t445.length co75)).setCell ⟨gb451, 3, none⟩ (.slice Ao76 t448.length co76)).heap[gb451]? = some (.cells #[.int .i64 t443, .int .i64 t444, .slice Ao75 t445.length co75, .slice Ao76 t448.length co76] 59 (0, 0))) := ⟨by (with_reducible repeat (first | refine blk_drewN ?_ _ | refine blk_drew ?_ | refine blk_alloc ?_ _)); refine blk_put (cs := #[.int .i64 t443, .int .i64 t444, .slice Ao75 t445.length co75, .slice none 0 0]) ?_ 3 _ rfl; (with_reducible repeat (first | refine blk_drewN ?_ _ | refine blk_drew ?_ | refine blk_alloc ?_ _)); refine blk_put (cs := #[.int .i64 t443, .int .i64 t444, .slice none 0 0, .slice none 0 0]) ?_ 2 _ rfl; (with_reducible repeat (first | refine blk_drewN ?_ _ | refine blk_drew ?_ | refine blk_alloc ?_ _)); refine blk_put (cs := #[.int .i64 t443, .int .i64 0, .slice none 0 0, .slice none 0 0]) ?_ 1 _ rfl; (with_reducible repeat (first | refine blk_drewN ?_ _ | refine blk_drew ?_ | refine blk_alloc ?_ _)); refine blk_put (cs := #[.int .i64 0, .int .i64 0, .slice none 0 0, .slice none 0 0]) ?_ 0 _ rfl; (with_reducible repeat (first | refine blk_drewN ?_ _ | refine blk_drew ?_ | refine blk_alloc ?_ _)); exact BK451.out⟩
 have n11_ : Aside0 (Below w.heap.size w ((((w69.setCell ⟨gb451, 0, none⟩ (.int .i64 t443)).setCell ⟨gb451, 1, none⟩ (.int .i64 t444)).setCell ⟨gb451, 2, none⟩ (.slice Ao75 t445.length co75)).setCell ⟨gb451, 3, none⟩ (.slice Ao76 t448.length co76))) := ⟨by repeat (first | (with_reducible first | exact HB.out | apply below_alloc | apply pw_below_drewN | apply below_drew1 | refine below_set ?_ GE416.out | refine below_set ?_ GE417.out | refine below_set ?_ GE418.out | refine below_set ?_ GE442.out | refine below_set ?_ GE451.out) | exact HB.out)⟩
 (try clear HO425)
 (try clear HO432)
 (try clear HO435)
 (try clear HO441)
 (try clear HO447)
 (try clear HO450)
 (try clear BK416)
 (try clear BK417)
 (try clear BK418)
 (try clear BK442)
 (try clear BK451)
 (try clear HB)
 generalize ((((w69.setCell ⟨gb451, 0, none⟩ (.int .i64 t443)).setCell ⟨gb451, 1, none⟩ (.int .i64 t444)).setCell ⟨gb451, 2, none⟩ (.slice Ao75 t445.length co75)).setCell ⟨gb451, 3, none⟩ (.slice Ao76 t448.length co76)) = w77 at n0_ n1_ n2_ n3_ n4_ n5_ n6_ n7_ n8_ n9_ n10_ n11_ ⊢
 have HO425 := n0_
 have HO432 := n1_
 have HO435 := n2_
 have HO441 := n3_
 have HO447 := n4_
 have HO450 := n5_
 have BK416 := n6_
 have BK417 := n7_
 have BK418 := n8_
 have BK442 := n9_
 have BK451 := n10_
 have HB := n11_
 clear n0_ n1_ n2_ n3_ n4_ n5_ n6_ n7_ n8_ n9_ n10_ n11_
 have n0_ := Aside0.mk (Kd.R_drew HO425.out)
 have n1_ := Aside0.mk (Kd.R_drew HO432.out)
 have n2_ := Aside0.mk (Kd.R_drew HO435.out)
 have n3_ := Aside0.mk (Kd.R_drew HO441.out)
 have n4_ := Aside0.mk (Kd.R_drew HO447.out)
 have n5_ := Aside0.mk (Kd.R_drew HO450.out)
 have n6_ := Aside0.mk (blk_drew BK416.out)
 have n7_ := Aside0.mk (blk_drew BK417.out)
 have n8_ := Aside0.mk (blk_drew BK418.out)
 have n9_ := Aside0.mk (blk_drew BK442.out)
 have n10_ := Aside0.mk (blk_drew BK451.out)
 have n11_ := Aside0.mk (below_drew1 HB.out)
 clear HO425
 clear HO432
 clear HO435
 clear HO441
 clear HO447
 clear HO450
 clear BK416
 clear BK417
 clear BK418
 clear BK442
 clear BK451
 clear HB
 have HO425 := n0_
 have HO432 := n1_
 have HO435 := n2_
 have HO441 := n3_
 have HO447 := n4_
 have HO450 := n5_
 have BK416 := n6_
 have BK417 := n7_
 have BK418 := n8_
 have BK442 := n9_
 have BK451 := n10_
 have HB := n11_
 clear n0_ n1_ n2_ n3_ n4_ n5_ n6_ n7_ n8_ n9_ n10_ n11_
 refine start_ (n := 7) (S := fun w' => w'.cell? ⟨gb442, 0, none⟩ = some (.int .i64 t437) ∧ w'.cell? ⟨gb442, 1, none⟩ = some (.int .i64 t438) ∧ w'.cell? ⟨gb442, 2, none⟩ = some (.slice Ao66 t439.length co66) ∧ w'.cell? ⟨gb417, 0, none⟩ = some (.int .i64 a2_0) ∧ w'.cell? ⟨gb417, 1, none⟩ = some (.int .i64 a2_1) ∧ w'.cell? ⟨gb451, 0, none⟩ = some (.int .i64 t443) ∧ w'.cell? ⟨gb451, 1, none⟩ = some (.int .i64 t444) ∧ w'.cell? ⟨gb451, 2, none⟩ = some (.slice Ao75 t445.length co75) ∧ w'.cell? ⟨gb451, 3, none⟩ = some (.slice Ao76 t448.length co76)) (ds := []) (ar 7 0 []) (by kernel_rfl) rfl rfl ⟨(blk_cell BK442.out 0).trans rfl, (blk_cell BK442.out 1).trans rfl, (blk_cell BK442.out 2).trans rfl, (blk_cell BK417.out 0).trans rfl, (blk_cell BK417.out 1).trans rfl, (blk_cell BK451.out 0).trans rfl, (blk_cell BK451.out 1).trans rfl, (blk_cell BK451.out 2).trans rfl, (blk_cell BK451.out 3).trans rfl⟩ (fun hHeld => ?_)
 generalize w77.drew = w78 at HO425 HO432 HO435 HO441 HO447 HO450 BK416 BK417 BK418 BK442 BK451 HB hHeld ⊢
 refine pu_ (i := 1) (N := 37) (v := ?_) (a' := ?_) (ar 7 2 [0]) rfl rfl (by kernel_rfl) ?_ ?_ ?_
 rotate_left
 · intro w'
   go_simp
   with_reducible rfl
 rotate_left
 · simp only [puts_]
   rfl
 refine tk_ (i := 0) (N := 36) (v := ?_) (a' := ?_) (ar 7 2 []) rfl rfl (by kernel_rfl) ?_ hHeld ?_ ?_
 rotate_left
 · rintro w' ⟨s0, s1, s2, s3, s4, s5, s6, s7, s8⟩
   go_simp
   with_reducible rfl
 rotate_left
 · simp only [puts_]
   rfl
 refine tk_ (i := 2) (N := 38) (v := ?_) (a' := ?_) (ar 7 3 []) rfl rfl (by kernel_rfl) ?_ hHeld ?_ ?_
 rotate_left
 · rintro w' ⟨s0, s1, s2, s3, s4, s5, s6, s7, s8⟩
   go_simp
   with_reducible rfl
 rotate_left
 · simp only [puts_]
   rfl
 refine tk_ (i := 4) (N := 40) (v := ?_) (a' := ?_) (ar 7 5 [3]) rfl rfl (by kernel_rfl) ?_ hHeld ?_ ?_
 rotate_left
 · rintro w' ⟨s0, s1, s2, s3, s4, s5, s6, s7, s8⟩
   go_simp
   with_reducible rfl
 rotate_left
 · simp only [puts_]
   rfl
 refine one_ (i := 3) (N := some 39) (ar 7 5 []) rfl rfl (by kernel_rfl) (by decide) (fun K hK => ?_)
 refine goes_ Try.func30 (by kernel_rfl) rfl #[.agg #[.int .i64 a2_0, .int .i64 a2_1]] (by rfl) rfl rfl (by (try simp only [List.map_toArray, List.map_cons, List.map_nil]); first | done | rfl | (simp only [List.length_drop, List.length_take]; rfl)) ?_
 with_reducible refine (laws_toRule.calls a2_0 a2_1 t452 t453 _ A32.out).mono ?_
 rintro e w79 ⟨rfl, hb⟩
 refine ⟨_, rfl, ?_⟩
 have n0_ := Aside0.mk (Kd.R_below (Kd.R_up HO425.out) hb)
 have n1_ := Aside0.mk (Kd.R_below (Kd.R_up HO432.out) hb)
 have n2_ := Aside0.mk (Kd.R_below (Kd.R_up HO435.out) hb)
 have n3_ := Aside0.mk (Kd.R_below (Kd.R_up HO441.out) hb)
 have n4_ := Aside0.mk (Kd.R_below (Kd.R_up HO447.out) hb)
 have n5_ := Aside0.mk (Kd.R_below (Kd.R_up HO450.out) hb)
 have n6_ := Aside0.mk (blk_below (blk_up BK416.out) hb)
 have n7_ := Aside0.mk (blk_below (blk_up BK417.out) hb)
 have n8_ := Aside0.mk (blk_below (blk_up BK418.out) hb)
 have n9_ := Aside0.mk (blk_below (blk_up BK442.out) hb)
 have n10_ := Aside0.mk (blk_below (blk_up BK451.out) hb)
 have n11_ := Aside0.mk (below_step (by repeat (first | (with_reducible first | exact HB.out | apply below_alloc | apply pw_below_drewN | apply below_drew1 | refine below_set ?_ GE416.out | refine below_set ?_ GE417.out | refine below_set ?_ GE418.out | refine below_set ?_ GE442.out | refine below_set ?_ GE451.out) | exact HB.out)) hb)
 clear HO425
 clear HO432
 clear HO435
 clear HO441
 clear HO447
 clear HO450
 clear BK416
 clear BK417
 clear BK418
 clear BK442
 clear BK451
 clear HB
 have HO425 := n0_
 have HO432 := n1_
 have HO435 := n2_
 have HO441 := n3_
 have HO447 := n4_
 have HO450 := n5_
 have BK416 := n6_
 have BK417 := n7_
 have BK418 := n8_
 have BK442 := n9_
 have BK451 := n10_
 have HB := n11_
 clear n0_ n1_ n2_ n3_ n4_ n5_ n6_ n7_ n8_ n9_ n10_ n11_
 (try clear hb)
 (try clear hb2)
 (try clear hk)
 (try clear hi)
 refine hK.out _ _ ⟨(blk_cell BK442.out 0).trans rfl, (blk_cell BK442.out 1).trans rfl, (blk_cell BK442.out 2).trans rfl, (blk_cell BK417.out 0).trans rfl, (blk_cell BK417.out 1).trans rfl, (blk_cell BK451.out 0).trans rfl, (blk_cell BK451.out 1).trans rfl, (blk_cell BK451.out 2).trans rfl, (blk_cell BK451.out 3).trans rfl⟩ (fun hHeld => ?_)
 clear hK K
 refine norm_ (a' := ?_) ?_ ?_
 rotate_left
 · show Act.put _ (some 39) _ = _
   simp only [puts_]
   rfl
 refine one_ (i := 5) (N := some 41) (ar 7 6 []) rfl rfl (by kernel_rfl) (by decide) (fun K hK => ?_)
 refine goes_ Try.func32 (by kernel_rfl) rfl #[.agg #[.int .i64 t437, .int .i64 t438, .slice Ao66 t439.length co66], .int .i64 a1, .agg #[.int .i64 t452, .int .i64 t453], .agg #[.int .i64 t443, .int .i64 t444, .slice Ao75 t445.length co75, .slice Ao76 t448.length co76]] (by rfl) rfl rfl (by (try simp only [List.map_toArray, List.map_cons, List.map_nil]); first | done | rfl | (simp only [List.length_drop, List.length_take]; rfl)) ?_
 with_reducible refine (impl_NeedHome.calls k t437 t438 _ _ t439 a1 t452 t453 t443 t444 _ _ t445 _ _ t448 t454 _ ?side1 ?side2 ?side3 ?side4 ?side5 ?side6 A33.out).mono ?_
 (case side1 => exact Kd.C_up ((Kd.R_reads' HO441.out).2.2))
 (case side2 => exact (Kd.R_reads' HO441.out).2.1)
 (case side3 => exact Kd.C_up ((Kd.R_reads' HO447.out).2.2))
 (case side4 => exact (Kd.R_reads' HO447.out).2.1)
 (case side5 => exact Kd.C_up ((Kd.R_reads' HO450.out).2.2))
 (case side6 => exact (Kd.R_reads' HO450.out).2.1)
 rintro e w80 ⟨rfl, hb⟩
 refine ⟨_, rfl, ?_⟩
 have n0_ := Aside0.mk (Kd.R_below (Kd.R_up HO425.out) hb)
 have n1_ := Aside0.mk (Kd.R_below (Kd.R_up HO432.out) hb)
 have n2_ := Aside0.mk (Kd.R_below (Kd.R_up HO435.out) hb)
 have n3_ := Aside0.mk (Kd.R_below (Kd.R_up HO441.out) hb)
 have n4_ := Aside0.mk (Kd.R_below (Kd.R_up HO447.out) hb)
 have n5_ := Aside0.mk (Kd.R_below (Kd.R_up HO450.out) hb)
 have n6_ := Aside0.mk (blk_below (blk_up BK416.out) hb)
 have n7_ := Aside0.mk (blk_below (blk_up BK417.out) hb)
 have n8_ := Aside0.mk (blk_below (blk_up BK418.out) hb)
 have n9_ := Aside0.mk (blk_below (blk_up BK442.out) hb)
 have n10_ := Aside0.mk (blk_below (blk_up BK451.out) hb)
 have n11_ := Aside0.mk (below_step (by repeat (first | (with_reducible first | exact HB.out | apply below_alloc | apply pw_below_drewN | apply below_drew1 | refine below_set ?_ GE416.out | refine below_set ?_ GE417.out | refine below_set ?_ GE418.out | refine below_set ?_ GE442.out | refine below_set ?_ GE451.out) | exact HB.out)) hb)
 clear HO425
 clear HO432
 clear HO435
 clear HO441
 clear HO447
 clear HO450
 clear BK416
 clear BK417
 clear BK418
 clear BK442
 clear BK451
 clear HB
 have HO425 := n0_
 have HO432 := n1_
 have HO435 := n2_
 have HO441 := n3_
 have HO447 := n4_
 have HO450 := n5_
 have BK416 := n6_
 have BK417 := n7_
 have BK418 := n8_
 have BK442 := n9_
 have BK451 := n10_
 have HB := n11_
 clear n0_ n1_ n2_ n3_ n4_ n5_ n6_ n7_ n8_ n9_ n10_ n11_
 (try clear hb)
 (try clear hb2)
 (try clear hk)
 (try clear hi)
 refine hK.out _ _ ⟨(blk_cell BK442.out 0).trans rfl, (blk_cell BK442.out 1).trans rfl, (blk_cell BK442.out 2).trans rfl, (blk_cell BK417.out 0).trans rfl, (blk_cell BK417.out 1).trans rfl, (blk_cell BK451.out 0).trans rfl, (blk_cell BK451.out 1).trans rfl, (blk_cell BK451.out 2).trans rfl, (blk_cell BK451.out 3).trans rfl⟩ (fun hHeld => ?_)
 clear hK K
 refine norm_ (a' := ?_) ?_ ?_
 rotate_left
 · show Act.put _ (some 41) _ = _
   simp only [puts_]
   rfl
 refine pu_ (i := 6) (N := 13) (v := ?_) (a' := ?_) (ar 7 7 []) rfl rfl (by kernel_rfl) ?_ ?_ ?_
 rotate_left
 · intro w'
   go_simp
   with_reducible rfl
 rotate_left
 · simp only [puts_]
   rfl
 refine done_ (by kernel_rfl) ?_
 try go_wp2
 have n0_ := Aside0.mk (Kd.R_drew HO425.out)
 have n1_ := Aside0.mk (Kd.R_drew HO432.out)
 have n2_ := Aside0.mk (Kd.R_drew HO435.out)
 have n3_ := Aside0.mk (Kd.R_drew HO441.out)
 have n4_ := Aside0.mk (Kd.R_drew HO447.out)
 have n5_ := Aside0.mk (Kd.R_drew HO450.out)
 have n6_ := Aside0.mk (blk_drew BK416.out)
 have n7_ := Aside0.mk (blk_drew BK417.out)
 have n8_ := Aside0.mk (blk_drew BK418.out)
 have n9_ := Aside0.mk (blk_drew BK442.out)
 have n10_ := Aside0.mk (blk_drew BK451.out)
 have n11_ := Aside0.mk (below_drew1 HB.out)
 clear HO425
 clear HO432
 clear HO435
 clear HO441
 clear HO447
 clear HO450
 clear BK416
 clear BK417
 clear BK418
 clear BK442
 clear BK451
 clear HB
 have HO425 := n0_
 have HO432 := n1_
 have HO435 := n2_
 have HO441 := n3_
 have HO447 := n4_
 have HO450 := n5_
 have BK416 := n6_
 have BK417 := n7_
 have BK418 := n8_
 have BK442 := n9_
 have BK451 := n10_
 have HB := n11_
 clear n0_ n1_ n2_ n3_ n4_ n5_ n6_ n7_ n8_ n9_ n10_ n11_
 refine start_ (n := 5) (S := fun w' => w'.cell? ⟨gb442, 0, none⟩ = some (.int .i64 t437) ∧ w'.cell? ⟨gb442, 1, none⟩ = some (.int .i64 t438) ∧ w'.cell? ⟨gb442, 2, none⟩ = some (.slice Ao66 t439.length co66) ∧ w'.cell? ⟨gb416, 0, none⟩ = some (.int .i64 a0_0) ∧ w'.cell? ⟨gb416, 1, none⟩ = some (.int .i64 a0_1) ∧ w'.cell? ⟨gb416, 2, none⟩ = some (.slice A0_2 l0_2.length c0_2)) (ds := []) (ar 5 0 []) (by kernel_rfl) rfl rfl ⟨(blk_cell BK442.out 0).trans rfl, (blk_cell BK442.out 1).trans rfl, (blk_cell BK442.out 2).trans rfl, (blk_cell BK416.out 0).trans rfl, (blk_cell BK416.out 1).trans rfl, (blk_cell BK416.out 2).trans rfl⟩ (fun hHeld => ?_)
 generalize w80.drew = w81 at HO425 HO432 HO435 HO441 HO447 HO450 BK416 BK417 BK418 BK442 BK451 HB hHeld ⊢
 refine tk_ (i := 0) (N := 45) (v := ?_) (a' := ?_) (ar 5 1 []) rfl rfl (by kernel_rfl) ?_ hHeld ?_ ?_
 rotate_left
 · rintro w' ⟨s0, s1, s2, s3, s4, s5⟩
   go_simp
   with_reducible rfl
 rotate_left
 · simp only [puts_]
   rfl
 refine tk_ (i := 1) (N := 46) (v := ?_) (a' := ?_) (ar 5 2 []) rfl rfl (by kernel_rfl) ?_ hHeld ?_ ?_
 rotate_left
 · rintro w' ⟨s0, s1, s2, s3, s4, s5⟩
   go_simp
   with_reducible rfl
 rotate_left
 · simp only [puts_]
   rfl
 refine one_ (i := 2) (N := some 47) (ar 5 3 []) rfl rfl (by kernel_rfl) (by decide) (fun K hK => ?_)
 refine goes_ Try.func9 (by kernel_rfl) rfl #[.agg #[.int .i64 a0_0, .int .i64 a0_1, .slice A0_2 l0_2.length c0_2]] (by rfl) rfl rfl (by (try simp only [List.map_toArray, List.map_cons, List.map_nil]); first | done | rfl | (simp only [List.length_drop, List.length_take]; rfl)) ?_
 with_reducible refine (laws_toLand.calls k a0_0 a0_1 _ _ l0_2 t455 t456 t457 _ ?side1 ?side2 A35.out).mono ?_
 (case side1 => exact (Kd.C_below HR0_2.out (below_up HB.out)))
 (case side2 => exact HC0_2.out)
 rintro e w82 ⟨v458, rfl, ho0, hb⟩
 refine ⟨_, rfl, ?_⟩
 have n0_ := Aside0.mk (Kd.R_elder' (Kd.R_up HO425.out) (Kd.R_base ho0) hb)
 have n1_ := Aside0.mk (Kd.R_below (Kd.R_up HO432.out) hb)
 have n2_ := Aside0.mk (Kd.R_below (Kd.R_up HO435.out) hb)
 have n3_ := Aside0.mk (Kd.R_elder' (Kd.R_up HO441.out) (Kd.R_base ho0) hb)
 have n4_ := Aside0.mk (Kd.R_below (Kd.R_up HO447.out) hb)
 have n5_ := Aside0.mk (Kd.R_below (Kd.R_up HO450.out) hb)
 have n6_ := Aside0.mk (Kd.R_lower (Kd.R_new' (Kd.R_new' ho0 (Kd.R_lt (Kd.R_up HO425.out))) (Kd.R_lt (Kd.R_up HO441.out))) (below_size (by repeat (first | (with_reducible first | exact HB.out | apply below_alloc | apply pw_below_drewN | apply below_drew1 | refine below_set ?_ GE416.out | refine below_set ?_ GE417.out | refine below_set ?_ GE418.out | refine below_set ?_ GE442.out | refine below_set ?_ GE451.out) | exact HB.out))))
 have n7_ := Aside0.mk (blk_below (blk_up BK416.out) hb)
 have n8_ := Aside0.mk (blk_below (blk_up BK417.out) hb)
 have n9_ := Aside0.mk (blk_below (blk_up BK418.out) hb)
 have n10_ := Aside0.mk (blk_below (blk_up BK442.out) hb)
 have n11_ := Aside0.mk (blk_below (blk_up BK451.out) hb)
 have n12_ := Aside0.mk (below_step (by repeat (first | (with_reducible first | exact HB.out | apply below_alloc | apply pw_below_drewN | apply below_drew1 | refine below_set ?_ GE416.out | refine below_set ?_ GE417.out | refine below_set ?_ GE418.out | refine below_set ?_ GE442.out | refine below_set ?_ GE451.out) | exact HB.out)) hb)
 clear HO425
 clear HO432
 clear HO435
 clear HO441
 clear HO447
 clear HO450
 clear BK416
 clear BK417
 clear BK418
 clear BK442
 clear BK451
 clear HB
 have HO425 := n0_
 have HO432 := n1_
 have HO435 := n2_
 have HO441 := n3_
 have HO447 := n4_
 have HO450 := n5_
 have HO459 := n6_
 have BK416 := n7_
 have BK417 := n8_
 have BK418 := n9_
 have BK442 := n10_
 have BK451 := n11_
 have HB := n12_
 clear n0_ n1_ n2_ n3_ n4_ n5_ n6_ n7_ n8_ n9_ n10_ n11_ n12_
 (try clear hb)
 (try clear hb2)
 (try clear hk)
 (try clear hi)
 (try clear ho0)
 obtain ⟨Ao83, co83, eo83⟩ := Kd.R_slice HO459.out
 (first | subst eo83 | (injection eo83 with f1_ f2_ f3_; have f4_ := f1_.symm; have f5_ := f3_.symm; clear f1_ f2_ f3_; subst f4_; subst f5_))
 refine hK.out _ _ ⟨(blk_cell BK442.out 0).trans rfl, (blk_cell BK442.out 1).trans rfl, (blk_cell BK442.out 2).trans rfl, (blk_cell BK416.out 0).trans rfl, (blk_cell BK416.out 1).trans rfl, (blk_cell BK416.out 2).trans rfl⟩ (fun hHeld => ?_)
 clear hK K
 refine norm_ (a' := ?_) ?_ ?_
 rotate_left
 · show Act.put _ (some 47) _ = _
   simp only [puts_]
   rfl
 refine one_ (i := 3) (N := some 48) (ar 5 4 []) rfl rfl (by kernel_rfl) (by decide) (fun K hK => ?_)
 refine goes_ Try.func13 (by kernel_rfl) rfl #[.agg #[.int .i64 t437, .int .i64 t438, .slice Ao66 t439.length co66], .agg #[.int .i64 t455, .int .i64 t456, .slice Ao83 t457.length co83]] (by rfl) rfl rfl (by (try simp only [List.map_toArray, List.map_cons, List.map_nil]); first | done | rfl | (simp only [List.length_drop, List.length_take]; rfl)) ?_
 with_reducible refine (laws_eqLand.calls k t437 t438 _ _ t439 t455 t456 _ _ t457 true _ ?side1 ?side2 ?side3 ?side4 A36.out).mono ?_
 (case side1 => exact Kd.C_up ((Kd.R_reads' HO441.out).2.2))
 (case side2 => exact (Kd.R_reads' HO441.out).2.1)
 (case side3 => exact Kd.C_up ((Kd.R_reads' HO459.out).2.2))
 (case side4 => exact (Kd.R_reads' HO459.out).2.1)
 rintro e w84 ⟨rfl, hb⟩
 refine ⟨_, rfl, ?_⟩
 have n0_ := Aside0.mk (Kd.R_below (Kd.R_up HO425.out) hb)
 have n1_ := Aside0.mk (Kd.R_below (Kd.R_up HO432.out) hb)
 have n2_ := Aside0.mk (Kd.R_below (Kd.R_up HO435.out) hb)
 have n3_ := Aside0.mk (Kd.R_below (Kd.R_up HO441.out) hb)
 have n4_ := Aside0.mk (Kd.R_below (Kd.R_up HO447.out) hb)
 have n5_ := Aside0.mk (Kd.R_below (Kd.R_up HO450.out) hb)
 have n6_ := Aside0.mk (Kd.R_below (Kd.R_up HO459.out) hb)
 have n7_ := Aside0.mk (blk_below (blk_up BK416.out) hb)
 have n8_ := Aside0.mk (blk_below (blk_up BK417.out) hb)
 have n9_ := Aside0.mk (blk_below (blk_up BK418.out) hb)
 have n10_ := Aside0.mk (blk_below (blk_up BK442.out) hb)
 have n11_ := Aside0.mk (blk_below (blk_up BK451.out) hb)
 have n12_ := Aside0.mk (below_step (by repeat (first | (with_reducible first | exact HB.out | apply below_alloc | apply pw_below_drewN | apply below_drew1 | refine below_set ?_ GE416.out | refine below_set ?_ GE417.out | refine below_set ?_ GE418.out | refine below_set ?_ GE442.out | refine below_set ?_ GE451.out) | exact HB.out)) hb)
 clear HO425
 clear HO432
 clear HO435
 clear HO441
 clear HO447
 clear HO450
 clear HO459
 clear BK416
 clear BK417
 clear BK418
 clear BK442
 clear BK451
 clear HB
 have HO425 := n0_
 have HO432 := n1_
 have HO435 := n2_
 have HO441 := n3_
 have HO447 := n4_
 have HO450 := n5_
 have HO459 := n6_
 have BK416 := n7_
 have BK417 := n8_
 have BK418 := n9_
 have BK442 := n10_
 have BK451 := n11_
 have HB := n12_
 clear n0_ n1_ n2_ n3_ n4_ n5_ n6_ n7_ n8_ n9_ n10_ n11_ n12_
 (try clear hb)
 (try clear hb2)
 (try clear hk)
 (try clear hi)
 refine hK.out _ _ ⟨(blk_cell BK442.out 0).trans rfl, (blk_cell BK442.out 1).trans rfl, (blk_cell BK442.out 2).trans rfl, (blk_cell BK416.out 0).trans rfl, (blk_cell BK416.out 1).trans rfl, (blk_cell BK416.out 2).trans rfl⟩ (fun hHeld => ?_)
 clear hK K
 refine norm_ (a' := ?_) ?_ ?_
 rotate_left
 · show Act.put _ (some 48) _ = _
   simp only [puts_]
   rfl
 refine pu_ (i := 4) (N := 49) (v := ?_) (a' := ?_) (ar 5 5 []) rfl rfl (by kernel_rfl) ?_ ?_ ?_
 rotate_left
 · intro w'
   go_simp
   with_reducible rfl
 rotate_left
 · simp only [puts_]
   rfl
 refine done_ (by kernel_rfl) ?_
 try go_wp2
 have n0_ := Aside0.mk (Kd.R_drew HO425.out)
 have n1_ := Aside0.mk (Kd.R_drew HO432.out)
 have n2_ := Aside0.mk (Kd.R_drew HO435.out)
 have n3_ := Aside0.mk (Kd.R_drew HO441.out)
 have n4_ := Aside0.mk (Kd.R_drew HO447.out)
 have n5_ := Aside0.mk (Kd.R_drew HO450.out)
 have n6_ := Aside0.mk (Kd.R_drew HO459.out)
 have n7_ := Aside0.mk (blk_drew BK416.out)
 have n8_ := Aside0.mk (blk_drew BK417.out)
 have n9_ := Aside0.mk (blk_drew BK418.out)
 have n10_ := Aside0.mk (blk_drew BK442.out)
 have n11_ := Aside0.mk (blk_drew BK451.out)
 have n12_ := Aside0.mk (below_drew1 HB.out)
 clear HO425
 clear HO432
 clear HO435
 clear HO441
 clear HO447
 clear HO450
 clear HO459
 clear BK416
 clear BK417
 clear BK418
 clear BK442
 clear BK451
 clear HB
 have HO425 := n0_
 have HO432 := n1_
 have HO435 := n2_
 have HO441 := n3_
 have HO447 := n4_
 have HO450 := n5_
 have HO459 := n6_
 have BK416 := n7_
 have BK417 := n8_
 have BK418 := n9_
 have BK442 := n10_
 have BK451 := n11_
 have HB := n12_
 clear n0_ n1_ n2_ n3_ n4_ n5_ n6_ n7_ n8_ n9_ n10_ n11_ n12_
 refine start_ (n := 5) (S := fun w' => w'.cell? ⟨gb451, 0, none⟩ = some (.int .i64 t443) ∧ w'.cell? ⟨gb451, 1, none⟩ = some (.int .i64 t444) ∧ w'.cell? ⟨gb451, 2, none⟩ = some (.slice Ao75 t445.length co75) ∧ w'.cell? ⟨gb451, 3, none⟩ = some (.slice Ao76 t448.length co76) ∧ w'.cell? ⟨gb418, 0, none⟩ = some (.int .i64 a3_0) ∧ w'.cell? ⟨gb418, 1, none⟩ = some (.int .i64 a3_1) ∧ w'.cell? ⟨gb418, 2, none⟩ = some (.slice A3_2 l3_2.length c3_2) ∧ w'.cell? ⟨gb418, 3, none⟩ = some (.slice A3_3 l3_3.length c3_3)) (ds := []) (ar 5 0 []) (by kernel_rfl) rfl rfl ⟨(blk_cell BK451.out 0).trans rfl, (blk_cell BK451.out 1).trans rfl, (blk_cell BK451.out 2).trans rfl, (blk_cell BK451.out 3).trans rfl, (blk_cell BK418.out 0).trans rfl, (blk_cell BK418.out 1).trans rfl, (blk_cell BK418.out 2).trans rfl, (blk_cell BK418.out 3).trans rfl⟩ (fun hHeld => ?_)
 generalize w84.drew = w85 at HO425 HO432 HO435 HO441 HO447 HO450 HO459 BK416 BK417 BK418 BK442 BK451 HB hHeld ⊢
 refine tk_ (i := 0) (N := 50) (v := ?_) (a' := ?_) (ar 5 1 []) rfl rfl (by kernel_rfl) ?_ hHeld ?_ ?_
 rotate_left
 · rintro w' ⟨s0, s1, s2, s3, s4, s5, s6, s7⟩
   go_simp
   with_reducible rfl
 rotate_left
 · simp only [puts_]
   rfl
 refine tk_ (i := 1) (N := 51) (v := ?_) (a' := ?_) (ar 5 2 []) rfl rfl (by kernel_rfl) ?_ hHeld ?_ ?_
 rotate_left
 · rintro w' ⟨s0, s1, s2, s3, s4, s5, s6, s7⟩
   go_simp
   with_reducible rfl
 rotate_left
 · simp only [puts_]
   rfl
 refine one_ (i := 2) (N := some 52) (ar 5 3 []) rfl rfl (by kernel_rfl) (by decide) (fun K hK => ?_)
 refine goes_ Try.func31 (by kernel_rfl) rfl #[.agg #[.int .i64 a3_0, .int .i64 a3_1, .slice A3_2 l3_2.length c3_2, .slice A3_3 l3_3.length c3_3]] (by rfl) rfl rfl (by (try simp only [List.map_toArray, List.map_cons, List.map_nil]); first | done | rfl | (simp only [List.length_drop, List.length_take]; rfl)) ?_
 with_reducible refine (laws_toParty.calls k a3_0 a3_1 _ _ l3_2 _ _ l3_3 t461 t462 t463 t466 _ ?side1 ?side2 ?side3 ?side4 A38.out).mono ?_
 (case side1 => exact (Kd.C_below HR3_2.out (below_up HB.out)))
 (case side2 => exact HC3_2.out)
 (case side3 => exact (Kd.C_below HR3_3.out (below_up HB.out)))
 (case side4 => exact HC3_3.out)
 rintro e w86 ⟨v464, v467, rfl, ho0, ho1, hb⟩
 refine ⟨_, rfl, ?_⟩
 have n0_ := Aside0.mk (Kd.R_below (Kd.R_up HO425.out) hb)
 have n1_ := Aside0.mk (Kd.R_elder' (Kd.R_up HO432.out) (Kd.R_base ho0) hb)
 have n2_ := Aside0.mk (Kd.R_elder' (Kd.R_up HO435.out) (Kd.R_base ho1) hb)
 have n3_ := Aside0.mk (Kd.R_below (Kd.R_up HO441.out) hb)
 have n4_ := Aside0.mk (Kd.R_elder' (Kd.R_up HO447.out) (Kd.R_base ho0) hb)
 have n5_ := Aside0.mk (Kd.R_elder' (Kd.R_up HO450.out) (Kd.R_base ho1) hb)
 have n6_ := Aside0.mk (Kd.R_below (Kd.R_up HO459.out) hb)
 have n7_ := Aside0.mk (Kd.R_lower (Kd.R_new' (Kd.R_new' ho0 (Kd.R_lt (Kd.R_up HO432.out))) (Kd.R_lt (Kd.R_up HO447.out))) (below_size (by repeat (first | (with_reducible first | exact HB.out | apply below_alloc | apply pw_below_drewN | apply below_drew1 | refine below_set ?_ GE416.out | refine below_set ?_ GE417.out | refine below_set ?_ GE418.out | refine below_set ?_ GE442.out | refine below_set ?_ GE451.out) | exact HB.out))))
 have n8_ := Aside0.mk (Kd.R_lower (Kd.R_new' (Kd.R_new' ho1 (Kd.R_lt (Kd.R_up HO435.out))) (Kd.R_lt (Kd.R_up HO450.out))) (below_size (by repeat (first | (with_reducible first | exact HB.out | apply below_alloc | apply pw_below_drewN | apply below_drew1 | refine below_set ?_ GE416.out | refine below_set ?_ GE417.out | refine below_set ?_ GE418.out | refine below_set ?_ GE442.out | refine below_set ?_ GE451.out) | exact HB.out))))
 have n9_ := Aside0.mk (blk_below (blk_up BK416.out) hb)
 have n10_ := Aside0.mk (blk_below (blk_up BK417.out) hb)
 have n11_ := Aside0.mk (blk_below (blk_up BK418.out) hb)
 have n12_ := Aside0.mk (blk_below (blk_up BK442.out) hb)
 have n13_ := Aside0.mk (blk_below (blk_up BK451.out) hb)
 have n14_ := Aside0.mk (below_step (by repeat (first | (with_reducible first | exact HB.out | apply below_alloc | apply pw_below_drewN | apply below_drew1 | refine below_set ?_ GE416.out | refine below_set ?_ GE417.out | refine below_set ?_ GE418.out | refine below_set ?_ GE442.out | refine below_set ?_ GE451.out) | exact HB.out)) hb)
 clear HO425
 clear HO432
 clear HO435
 clear HO441
 clear HO447
 clear HO450
 clear HO459
 clear BK416
 clear BK417
 clear BK418
 clear BK442
 clear BK451
 clear HB
 have HO425 := n0_
 have HO432 := n1_
 have HO435 := n2_
 have HO441 := n3_
 have HO447 := n4_
 have HO450 := n5_
 have HO459 := n6_
 have HO465 := n7_
 have HO468 := n8_
 have BK416 := n9_
 have BK417 := n10_
 have BK418 := n11_
 have BK442 := n12_
 have BK451 := n13_
 have HB := n14_
 clear n0_ n1_ n2_ n3_ n4_ n5_ n6_ n7_ n8_ n9_ n10_ n11_ n12_ n13_ n14_
 (try clear hb)
 (try clear hb2)
 (try clear hk)
 (try clear hi)
 (try clear ho0)
 (try clear ho1)
 obtain ⟨Ao87, co87, eo87⟩ := Kd.R_slice HO465.out
 (first | subst eo87 | (injection eo87 with f1_ f2_ f3_; have f4_ := f1_.symm; have f5_ := f3_.symm; clear f1_ f2_ f3_; subst f4_; subst f5_))
 obtain ⟨Ao88, co88, eo88⟩ := Kd.R_slice HO468.out
 (first | subst eo88 | (injection eo88 with f1_ f2_ f3_; have f4_ := f1_.symm; have f5_ := f3_.symm; clear f1_ f2_ f3_; subst f4_; subst f5_))
 refine hK.out _ _ ⟨(blk_cell BK451.out 0).trans rfl, (blk_cell BK451.out 1).trans rfl, (blk_cell BK451.out 2).trans rfl, (blk_cell BK451.out 3).trans rfl, (blk_cell BK418.out 0).trans rfl, (blk_cell BK418.out 1).trans rfl, (blk_cell BK418.out 2).trans rfl, (blk_cell BK418.out 3).trans rfl⟩ (fun hHeld => ?_)
 clear hK K
 refine norm_ (a' := ?_) ?_ ?_
 rotate_left
 · show Act.put _ (some 52) _ = _
   simp only [puts_]
   rfl
 refine one_ (i := 3) (N := some 53) (ar 5 4 []) rfl rfl (by kernel_rfl) (by decide) (fun K hK => ?_)
 refine goes_ Try.func33 (by kernel_rfl) rfl #[.agg #[.int .i64 t443, .int .i64 t444, .slice Ao75 t445.length co75, .slice Ao76 t448.length co76], .agg #[.int .i64 t461, .int .i64 t462, .slice Ao87 t463.length co87, .slice Ao88 t466.length co88]] (by rfl) rfl rfl (by (try simp only [List.map_toArray, List.map_cons, List.map_nil]); first | done | rfl | (simp only [List.length_drop, List.length_take]; rfl)) ?_
 with_reducible refine (laws_eqParty.calls k t443 t444 _ _ t445 _ _ t448 t461 t462 _ _ t463 _ _ t466 true _ ?side1 ?side2 ?side3 ?side4 ?side5 ?side6 ?side7 ?side8 A39.out).mono ?_
 (case side1 => exact Kd.C_up ((Kd.R_reads' HO447.out).2.2))
 (case side2 => exact (Kd.R_reads' HO447.out).2.1)
 (case side3 => exact Kd.C_up ((Kd.R_reads' HO450.out).2.2))
 (case side4 => exact (Kd.R_reads' HO450.out).2.1)
 (case side5 => exact Kd.C_up ((Kd.R_reads' HO465.out).2.2))
 (case side6 => exact (Kd.R_reads' HO465.out).2.1)
 (case side7 => exact Kd.C_up ((Kd.R_reads' HO468.out).2.2))
 (case side8 => exact (Kd.R_reads' HO468.out).2.1)
 rintro e w89 ⟨rfl, hb⟩
 refine ⟨_, rfl, ?_⟩
 have n0_ := Aside0.mk (Kd.R_below (Kd.R_up HO425.out) hb)
 have n1_ := Aside0.mk (Kd.R_below (Kd.R_up HO432.out) hb)
 have n2_ := Aside0.mk (Kd.R_below (Kd.R_up HO435.out) hb)
 have n3_ := Aside0.mk (Kd.R_below (Kd.R_up HO441.out) hb)
 have n4_ := Aside0.mk (Kd.R_below (Kd.R_up HO447.out) hb)
 have n5_ := Aside0.mk (Kd.R_below (Kd.R_up HO450.out) hb)
 have n6_ := Aside0.mk (Kd.R_below (Kd.R_up HO459.out) hb)
 have n7_ := Aside0.mk (Kd.R_below (Kd.R_up HO465.out) hb)
 have n8_ := Aside0.mk (Kd.R_below (Kd.R_up HO468.out) hb)
 have n9_ := Aside0.mk (blk_below (blk_up BK416.out) hb)
 have n10_ := Aside0.mk (blk_below (blk_up BK417.out) hb)
 have n11_ := Aside0.mk (blk_below (blk_up BK418.out) hb)
 have n12_ := Aside0.mk (blk_below (blk_up BK442.out) hb)
 have n13_ := Aside0.mk (blk_below (blk_up BK451.out) hb)
 have n14_ := Aside0.mk (below_step (by repeat (first | (with_reducible first | exact HB.out | apply below_alloc | apply pw_below_drewN | apply below_drew1 | refine below_set ?_ GE416.out | refine below_set ?_ GE417.out | refine below_set ?_ GE418.out | refine below_set ?_ GE442.out | refine below_set ?_ GE451.out) | exact HB.out)) hb)
 clear HO425
 clear HO432
 clear HO435
 clear HO441
 clear HO447
 clear HO450
 clear HO459
 clear HO465
 clear HO468
 clear BK416
 clear BK417
 clear BK418
 clear BK442
 clear BK451
 clear HB
 have HO425 := n0_
 have HO432 := n1_
 have HO435 := n2_
 have HO441 := n3_
 have HO447 := n4_
 have HO450 := n5_
 have HO459 := n6_
 have HO465 := n7_
 have HO468 := n8_
 have BK416 := n9_
 have BK417 := n10_
 have BK418 := n11_
 have BK442 := n12_
 have BK451 := n13_
 have HB := n14_
 clear n0_ n1_ n2_ n3_ n4_ n5_ n6_ n7_ n8_ n9_ n10_ n11_ n12_ n13_ n14_
 (try clear hb)
 (try clear hb2)
 (try clear hk)
 (try clear hi)
 refine hK.out _ _ ⟨(blk_cell BK451.out 0).trans rfl, (blk_cell BK451.out 1).trans rfl, (blk_cell BK451.out 2).trans rfl, (blk_cell BK451.out 3).trans rfl, (blk_cell BK418.out 0).trans rfl, (blk_cell BK418.out 1).trans rfl, (blk_cell BK418.out 2).trans rfl, (blk_cell BK418.out 3).trans rfl⟩ (fun hHeld => ?_)
 clear hK K
 refine norm_ (a' := ?_) ?_ ?_
 rotate_left
 · show Act.put _ (some 53) _ = _
   simp only [puts_]
   rfl
 refine pu_ (i := 4) (N := 54) (v := ?_) (a' := ?_) (ar 5 5 []) rfl rfl (by kernel_rfl) ?_ ?_ ?_
 rotate_left
 · intro w'
   go_simp
   with_reducible rfl
 rotate_left
 · simp only [puts_]
   rfl
 refine done_ (by kernel_rfl) ?_
 try go_wp2
 go_ret
 exact ⟨by first | rfl | (simp [errW_none, errW_some] <;> rfl) | (simp [*, errW_none, errW_some] <;> rfl), by repeat (first | (with_reducible first | exact HB.out | apply below_alloc | apply pw_below_drewN | apply below_drew1 | refine below_set ?_ GE416.out | refine below_set ?_ GE417.out | refine below_set ?_ GE418.out | refine below_set ?_ GE442.out | refine below_set ?_ GE451.out) | exact HB.out)⟩
end Go.Proofs.Ytdgpnmbmnnmdcab.PFnExactNeedHome
