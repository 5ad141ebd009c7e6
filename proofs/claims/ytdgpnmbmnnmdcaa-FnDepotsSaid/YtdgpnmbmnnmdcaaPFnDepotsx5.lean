/- Contracts of Go functions: what print.sh prints, written shorter by short.py. -/
import Derived.Test.YtdgpnmbmnnmdcaaUp
import Derived.Test.YtdgpnmbmnnmdcaaPFnDepotsx0
import Derived.Test.YtdgpnmbmnnmdcaaPFnDepotsx2
import Derived.Test.YtdgpnmbmnnmdcaaPFnDepotsx3
import Derived.Test.YtdgpnmbmnnmdcaaPFnDepotsx4
import Derived.Test.YtdgpnmbmnnmdcaaCopy
namespace Go.Proofs.Ytdgpnmbmnnmdcaa.PFnDepots
open Go.RowKit Go.Proofs.YtdgpnmbmnnmdcaaW.PrintWords Go.Proofs.YtdgpnmbmnnmdcaaW.PrintLast Go.Proofs.YtdgpnmbmnnmdcaaW.PrintMore
attribute [local go_sem] max2_int min2_int max_two min_two max_three min_three max_four min_four   -- for this text's walks alone
set_option linter.unusedVariables false
set_option linter.unusedSimpArgs false

/-! ### impl_Lay: function 32 -/
mutual
def impl_Lay.j0 : Nat → List (S66) → Int → Int → Bool → Int → Int → List Int → Option ((List (S66)) × Bool)
 | 0, _, _, _, _, _, _, _ => none
 | k + 1, x1, x2, x3, x20, x128000, x128001, x128002 => if x20 = true then ((impl_copyDepots.f x1).bind fun t130 => (some (t130, false))) else ((impl_copyDepots.f x1).bind fun t133 => (impl_Lay.l0 k x1 x2 x3 t133 0 x128000 x128001 x128002))
def impl_Lay.j2 : Nat → List (S66) → Int → Int → List (S66) → Int → Int → Int → List Int → Option ((List (S66)) × Bool)
 | 0, _, _, _, _, _, _, _, _ => none
 | k + 1, x1, x2, x3, x10, x11, x128000, x128001, x128002 => if x11 < (x10.length : Int) then (if 0 ≤ x11 then (impl_Lay.j3 k x1 x2 x3 x10 x11 (((rd_T66 x10 x11).f0) == x2) x128000 x128001 x128002) else (none)) else (impl_Lay.j3 k x1 x2 x3 x10 x11 false x128000 x128001 x128002)
def impl_Lay.j3 : Nat → List (S66) → Int → Int → List (S66) → Int → Bool → Int → Int → List Int → Option ((List (S66)) × Bool)
 | 0, _, _, _, _, _, _, _, _, _ => none
 | k + 1, x1, x2, x3, x10, x11, x52, x128000, x128001, x128002 => if x52 = true then (if 0 ≤ x11 then (if x11 < (x10.length : Int) then (impl_Lay.j4 k x1 (x10.set (x11 : Int).toNat (⟨(rd_T66 x10 x11).f0, wrap64 (((rd_T66 x10 x11).f1) + x3)⟩ : S66)) x128000 x128001 x128002) else (none)) else (none)) else (if x10.length < 8796093022208 then ((some (x10 ++ [(⟨0, 0⟩ : S66)] : List (S66))).bind fun y140 => (if 0 ≤ (wrap64 (x11 + 1)) then (if (wrap64 (x11 + 1)) ≤ (y140.length : Int) then (if 0 ≤ x11 then (if x11 ≤ (y140.length : Int) then (if x11 < (y140.length : Int) then (impl_Lay.j4 k x1 ((Go.Proofs.Ytdgpnmbmnnmdcaa.Copy.shiftS y140 (x11 : Int).toNat).set (x11 : Int).toNat (⟨x2, x3⟩ : S66)) x128000 x128001 x128002) else (none)) else (none)) else (none)) else (none)) else (none))) else (none))
def impl_Lay.j4 : Nat → List (S66) → List (S66) → Int → Int → List Int → Option ((List (S66)) × Bool)
 | 0, _, _, _, _, _ => none
 | k + 1, x1, x10, x128000, x128001, x128002 => (impl_AreDepots.f k x128000 x128001 x128002 x10).bind fun t153 => (if t153 = true then (some (x10, true)) else ((impl_copyDepots.f x1).bind fun t154 => (some (t154, false))))
def impl_Lay.l0 : Nat → List (S66) → Int → Int → List (S66) → Int → Int → Int → List Int → Option ((List (S66)) × Bool)
 | 0, _, _, _, _, _, _, _, _ => none
 | k + 1, x1, x2, x3, x10, x11, x128000, x128001, x128002 => if x11 < (x10.length : Int) then (if 0 ≤ x11 then (if ((rd_T66 x10 x11).f0) < x2 then (impl_Lay.l0 k x1 x2 x3 x10 (wrap64 (x11 + 1)) x128000 x128001 x128002) else (impl_Lay.j2 k x1 x2 x3 x10 x11 x128000 x128001 x128002)) else (none)) else (impl_Lay.j2 k x1 x2 x3 x10 x11 x128000 x128001 x128002)
end
def impl_Lay.f (k : Nat) (a0_0 : Int) (a0_1 : Int) (l0_2 : List Int) (l1 : List (S66)) (a2 : Int) (a3 : Int) : Option ((List (S66)) × Bool) := (impl_InRange.f a3 1 10000).bind fun t128 => (if t128 = true then ((impl_AreDepots.f k a0_0 a0_1 l0_2 l1).bind fun t129 => (impl_Lay.j0 k l1 a2 a3 (!t129) a0_0 a0_1 l0_2)) else (impl_Lay.j0 k l1 a2 a3 true a0_0 a0_1 l0_2))
theorem impl_Lay.mono_l : ∀ k, (∀ y0 y1 y2 y3 y4 y5 y6, LeO (impl_Lay.j0 k y0 y1 y2 y3 y4 y5 y6) (impl_Lay.j0 (k + 1) y0 y1 y2 y3 y4 y5 y6)) ∧ (∀ y0 y1 y2 y3 y4 y5 y6 y7, LeO (impl_Lay.j2 k y0 y1 y2 y3 y4 y5 y6 y7) (impl_Lay.j2 (k + 1) y0 y1 y2 y3 y4 y5 y6 y7)) ∧ (∀ y0 y1 y2 y3 y4 y5 y6 y7 y8, LeO (impl_Lay.j3 k y0 y1 y2 y3 y4 y5 y6 y7 y8) (impl_Lay.j3 (k + 1) y0 y1 y2 y3 y4 y5 y6 y7 y8)) ∧ (∀ y0 y1 y2 y3 y4, LeO (impl_Lay.j4 k y0 y1 y2 y3 y4) (impl_Lay.j4 (k + 1) y0 y1 y2 y3 y4)) ∧ (∀ y0 y1 y2 y3 y4 y5 y6 y7, LeO (impl_Lay.l0 k y0 y1 y2 y3 y4 y5 y6 y7) (impl_Lay.l0 (k + 1) y0 y1 y2 y3 y4 y5 y6 y7))
 | 0 => ⟨fun _ _ _ _ _ _ _ r h => by simp [impl_Lay.j0] at h, fun _ _ _ _ _ _ _ _ r h => by simp [impl_Lay.j2] at h, fun _ _ _ _ _ _ _ _ _ r h => by simp [impl_Lay.j3] at h, fun _ _ _ _ _ r h => by simp [impl_Lay.j4] at h, fun _ _ _ _ _ _ _ _ r h => by simp [impl_Lay.l0] at h⟩
 | k + 1 => by
  obtain ⟨ih0, ih1, ih2, ih3, ih4⟩ := impl_Lay.mono_l k
  refine ⟨?_, ?_, ?_, ?_, ?_⟩
  · intro y0 y1 y2 y3 y4 y5 y6
    unfold impl_Lay.j0
    repeat' first
    | (with_reducible exact ih0 _ _ _ _ _ _ _)
    | (with_reducible exact ih1 _ _ _ _ _ _ _ _)
    | (with_reducible exact ih2 _ _ _ _ _ _ _ _ _)
    | (with_reducible exact ih3 _ _ _ _ _)
    | (with_reducible exact ih4 _ _ _ _ _ _ _ _)
    | (with_reducible exact impl_AreDepots.mono _ _ _ _ _)
    | (with_reducible exact LeO.refl _)
    | (with_reducible exact LeO.none _)
    | (with_reducible refine LeO.ite ?_ ?_)
    | (with_reducible refine LeO.bind ?_ (fun _ => ?_))
    | exact ih0 _ _ _ _ _ _ _
    | exact ih1 _ _ _ _ _ _ _ _
    | exact ih2 _ _ _ _ _ _ _ _ _
    | exact ih3 _ _ _ _ _
    | exact ih4 _ _ _ _ _ _ _ _
    | exact impl_AreDepots.mono _ _ _ _ _
    | exact LeO.none _
    | refine LeO.ite ?_ ?_
    | refine LeO.bind ?_ (fun _ => ?_)
  · intro y0 y1 y2 y3 y4 y5 y6 y7
    unfold impl_Lay.j2
    repeat' first
    | (with_reducible exact ih0 _ _ _ _ _ _ _)
    | (with_reducible exact ih1 _ _ _ _ _ _ _ _)
    | (with_reducible exact ih2 _ _ _ _ _ _ _ _ _)
    | (with_reducible exact ih3 _ _ _ _ _)
    | (with_reducible exact ih4 _ _ _ _ _ _ _ _)
    | (with_reducible exact impl_AreDepots.mono _ _ _ _ _)
    | (with_reducible exact LeO.refl _)
    | (with_reducible exact LeO.none _)
    | (with_reducible refine LeO.ite ?_ ?_)
    | (with_reducible refine LeO.bind ?_ (fun _ => ?_))
    | exact ih0 _ _ _ _ _ _ _
    | exact ih1 _ _ _ _ _ _ _ _
    | exact ih2 _ _ _ _ _ _ _ _ _
    | exact ih3 _ _ _ _ _
    | exact ih4 _ _ _ _ _ _ _ _
    | exact impl_AreDepots.mono _ _ _ _ _
    | exact LeO.none _
    | refine LeO.ite ?_ ?_
    | refine LeO.bind ?_ (fun _ => ?_)
  · intro y0 y1 y2 y3 y4 y5 y6 y7 y8
    unfold impl_Lay.j3
    repeat' first
    | (with_reducible exact ih0 _ _ _ _ _ _ _)
    | (with_reducible exact ih1 _ _ _ _ _ _ _ _)
    | (with_reducible exact ih2 _ _ _ _ _ _ _ _ _)
    | (with_reducible exact ih3 _ _ _ _ _)
    | (with_reducible exact ih4 _ _ _ _ _ _ _ _)
    | (with_reducible exact impl_AreDepots.mono _ _ _ _ _)
    | (with_reducible exact LeO.refl _)
    | (with_reducible exact LeO.none _)
    | (with_reducible refine LeO.ite ?_ ?_)
    | (with_reducible refine LeO.bind ?_ (fun _ => ?_))
    | exact ih0 _ _ _ _ _ _ _
    | exact ih1 _ _ _ _ _ _ _ _
    | exact ih2 _ _ _ _ _ _ _ _ _
    | exact ih3 _ _ _ _ _
    | exact ih4 _ _ _ _ _ _ _ _
    | exact impl_AreDepots.mono _ _ _ _ _
    | exact LeO.none _
    | refine LeO.ite ?_ ?_
    | refine LeO.bind ?_ (fun _ => ?_)
  · intro y0 y1 y2 y3 y4
    unfold impl_Lay.j4
    repeat' first
    | (with_reducible exact ih0 _ _ _ _ _ _ _)
    | (with_reducible exact ih1 _ _ _ _ _ _ _ _)
    | (with_reducible exact ih2 _ _ _ _ _ _ _ _ _)
    | (with_reducible exact ih3 _ _ _ _ _)
    | (with_reducible exact ih4 _ _ _ _ _ _ _ _)
    | (with_reducible exact impl_AreDepots.mono _ _ _ _ _)
    | (with_reducible exact LeO.refl _)
    | (with_reducible exact LeO.none _)
    | (with_reducible refine LeO.ite ?_ ?_)
    | (with_reducible refine LeO.bind ?_ (fun _ => ?_))
    | exact ih0 _ _ _ _ _ _ _
    | exact ih1 _ _ _ _ _ _ _ _
    | exact ih2 _ _ _ _ _ _ _ _ _
    | exact ih3 _ _ _ _ _
    | exact ih4 _ _ _ _ _ _ _ _
    | exact impl_AreDepots.mono _ _ _ _ _
    | exact LeO.none _
    | refine LeO.ite ?_ ?_
    | refine LeO.bind ?_ (fun _ => ?_)
  · intro y0 y1 y2 y3 y4 y5 y6 y7
    unfold impl_Lay.l0
    repeat' first
    | (with_reducible exact ih0 _ _ _ _ _ _ _)
    | (with_reducible exact ih1 _ _ _ _ _ _ _ _)
    | (with_reducible exact ih2 _ _ _ _ _ _ _ _ _)
    | (with_reducible exact ih3 _ _ _ _ _)
    | (with_reducible exact ih4 _ _ _ _ _ _ _ _)
    | (with_reducible exact impl_AreDepots.mono _ _ _ _ _)
    | (with_reducible exact LeO.refl _)
    | (with_reducible exact LeO.none _)
    | (with_reducible refine LeO.ite ?_ ?_)
    | (with_reducible refine LeO.bind ?_ (fun _ => ?_))
    | exact ih0 _ _ _ _ _ _ _
    | exact ih1 _ _ _ _ _ _ _ _
    | exact ih2 _ _ _ _ _ _ _ _ _
    | exact ih3 _ _ _ _ _
    | exact ih4 _ _ _ _ _ _ _ _
    | exact impl_AreDepots.mono _ _ _ _ _
    | exact LeO.none _
    | refine LeO.ite ?_ ?_
    | refine LeO.bind ?_ (fun _ => ?_)
theorem impl_Lay.mono : ∀ a0 a1 a2 a3 a4 a5 k, LeO (impl_Lay.f k a0 a1 a2 a3 a4 a5) (impl_Lay.f (k + 1) a0 a1 a2 a3 a4 a5) := by
 intro a0 a1 a2 a3 a4 a5 k
 obtain ⟨ih0, ih1, ih2, ih3, ih4⟩ := impl_Lay.mono_l k
 unfold impl_Lay.f
 repeat' first
  | (with_reducible exact ih0 _ _ _ _ _ _ _)
  | (with_reducible exact ih1 _ _ _ _ _ _ _ _)
  | (with_reducible exact ih2 _ _ _ _ _ _ _ _ _)
  | (with_reducible exact ih3 _ _ _ _ _)
  | (with_reducible exact ih4 _ _ _ _ _ _ _ _)
  | (with_reducible exact impl_AreDepots.mono _ _ _ _ _)
  | (with_reducible exact LeO.refl _)
  | (with_reducible exact LeO.none _)
  | (with_reducible refine LeO.ite ?_ ?_)
  | (with_reducible refine LeO.bind ?_ (fun _ => ?_))
  | exact ih0 _ _ _ _ _ _ _
  | exact ih1 _ _ _ _ _ _ _ _
  | exact ih2 _ _ _ _ _ _ _ _ _
  | exact ih3 _ _ _ _ _
  | exact ih4 _ _ _ _ _ _ _ _
  | exact impl_AreDepots.mono _ _ _ _ _
  | exact LeO.none _
  | refine LeO.ite ?_ ?_
  | refine LeO.bind ?_ (fun _ => ?_)
def impl_Lay.T9 : Bool × List (List Nat × List Nat) := (true, [([], []), ([], []), ([1], [1]), ([0, 2], [0, 2]), ([], []), ([], []), ([4, 5], [4, 5]), ([3, 6], [3, 6])])
def impl_Lay.B9 : List Nat := [0, 0, 2, 7, 0, 0, 48, 127]
theorem impl_Lay.tab9 : rtab .any (opsOf Try.f32 9) = impl_Lay.T9 := by kernel_rfl
theorem impl_Lay.bits9 : waitsOk impl_Lay.T9.2 impl_Lay.B9 = true := by kernel_rfl
set_option maxHeartbeats 8000000 in
set_option maxRecDepth 100000 in
theorem impl_Lay.calls (k : Nat) (a0_0 : Int) (a0_1 : Int) (A0_2 : Option Addr) (c0_2 : Nat) (l0_2 : List Int) (A1 : Option Addr) (c1 : Nat) (l1 : List (S66)) (a2 : Int) (a3 : Int) (r1 : List (S66)) (r2 : Bool) (w : World) (hr0_2 : Kd.C (Kd.int .i64) w A0_2 l0_2.length l0_2) (hc0_2 : l0_2.length ≤ c0_2) (hr1 : Kd.C k66 w A1 l1.length l1) (hc1 : l1.length ≤ c1) (h : impl_Lay.f k a0_0 a0_1 l0_2 l1 a2 a3 = some (r1, r2)) :
 Calls Try.prog 32 #[.agg #[.int .i64 a0_0, .int .i64 a0_1, .slice A0_2 l0_2.length c0_2], .slice A1 l1.length c1, .int .i64 a2, .int .i64 a3] w fun e w' => ∃ v0_ : Value, e = .returned (.tuple #[v0_, .bool r2]) ∧ Kd.R k66 66 w' w.heap.size (fun _ => True) v0_ r1 ∧ Below w.heap.size w w' := by
 have hu43 := Try.underlying43
 have hu66 := Try.underlying66
 have HR0_2 := Aside0.mk hr0_2
 have HC0_2 := Aside0.mk hc0_2
 clear hr0_2 hc0_2
 have HR1 := Aside0.mk hr1
 have HC1 := Aside0.mk hc1
 clear hr1 hc1
 have HB := Aside0.mk (Below.refl w.heap.size w)
 have H : ((impl_InRange.f a3 1 10000).bind fun t128 => (if t128 = true then ((impl_AreDepots.f k a0_0 a0_1 l0_2 l1).bind fun t129 => (impl_Lay.j0 k l1 a2 a3 (!t129) a0_0 a0_1 l0_2)) else (impl_Lay.j0 k l1 a2 a3 true a0_0 a0_1 l0_2))) = some (r1, r2) := h
 clear h
 have HC5 := Aside0.mk H
 clear H
 go_enter Try.func32, Try.ntmps32
 go_upto_region 1 with (first | ((with_reducible refine gate_dst (N := 4) rfl ?_); refine box_event ?hg (N := 4) ?hd (cs := #[.int .i64 a0_0, .int .i64 a0_1, .slice A0_2 l0_2.length c0_2]) (t := 43) ?hr ?_; (case hd => rfl); (case hg => rfl); (case hr => first | (go_simp; done) | (go_simp; rfl)); intro gb127 hg w6 hbox hb; have n0_ := Aside0.mk (below_step (below_up HB.out) hb); have n1_ := Aside0.mk (hbox); have n2_ := Aside0.mk ((by rw [hg]; exact (below_size (below_up HB.out)) : w.heap.size ≤ gb127)); have n3_ := Aside0.mk ((by rw [hg]; exact (below_size (below_up HB.out)) : w.heap.size ≤ gb127)); clear HB; have HB := n0_; have BK127 := n1_; have GW127 := n2_; have GE127 := n3_; clear n0_ n1_ n2_ n3_; clear hb hbox hg))
 (try simp only [Act.put, List.setIfInBounds_toArray, List.set_cons_zero, List.set_cons_succ])
 go_cut [20] (fun v20 wc => ∃ (kq : Nat) (x20_4 : Bool), v20 = .bool x20_4 ∧ Aside0 (impl_Lay.j0 kq l1 a2 a3 x20_4 a0_0 a0_1 l0_2 = some (r1, r2)) ∧ Aside0 (kq ≤ k) ∧ Aside0 (wc.heap[gb127]? = some (.cells #[.int .i64 a0_0, .int .i64 a0_1, (.slice A0_2 l0_2.length c0_2)] 43 (0, 0))) ∧ Aside0 (Below w.heap.size w wc))
 case first =>
  have H := HC5.out
  clear HC5
  replace H := Option.bind_eq_some_iff.mp H
  obtain ⟨t128, A70, H⟩ := H
  have A7 := Aside0.mk A70
  clear A70
  by_cases c8 : t128 = true
  rotate_left
  · replace c8 := Bool.eq_false_iff.mpr c8
    subst c8
    rw [if_neg (show ¬ (false = true) by decide)] at H
    have H' := Aside0.mk H
    clear H
    go_wp2_with (first | ((with_reducible refine gate_callee (f := 56) rfl ?_); refine goesL_ (some 13) rfl rfl Try.func56 (by kernel_rfl) rfl #[.int .i64 a3, .int .i64 1, .int .i64 10000] rfl (by (try simp only [List.map_toArray, List.map_cons, List.map_nil]); first | done | rfl | (simp only [List.length_drop, List.length_take]; rfl)) ?_; (with_reducible refine (impl_InRange.calls a3 1 10000 false _ A7.out).mono ?_); rintro e w' ⟨rfl, ⟨nd, rfl⟩⟩; refine ⟨_, rfl, ?_⟩))
    go_meet
    case rel => exact ⟨_, (true), (by first | rfl | (simp; done) | (simp [*]; done)), H', ⟨by first | omega | exact Nat.le_refl _⟩, ⟨by (with_reducible repeat (first | refine blk_drewN ?_ _ | refine blk_drew ?_ | refine blk_alloc ?_ _)); exact BK127.out⟩, ⟨by repeat (first | (with_reducible first | exact HB.out | apply below_alloc | apply pw_below_drewN | apply below_drew1 | refine below_set ?_ GE127.out) | exact HB.out)⟩⟩
  subst c8
  rw [if_pos rfl] at H
  replace H := Option.bind_eq_some_iff.mp H
  obtain ⟨t129, A90, H⟩ := H
  have A9 := Aside0.mk A90
  clear A90
  have H' := Aside0.mk H
  clear H
  go_wp2_with (first | ((with_reducible refine gate_callee (f := 56) rfl ?_); refine goesL_ (some 13) rfl rfl Try.func56 (by kernel_rfl) rfl #[.int .i64 a3, .int .i64 1, .int .i64 10000] rfl (by (try simp only [List.map_toArray, List.map_cons, List.map_nil]); first | done | rfl | (simp only [List.length_drop, List.length_take]; rfl)) ?_; (with_reducible refine (impl_InRange.calls a3 1 10000 true _ A7.out).mono ?_); rintro e w' ⟨rfl, ⟨nd, rfl⟩⟩; refine ⟨_, rfl, ?_⟩; have hcz10_0 : w6.cell? ⟨gb127, 0, none⟩ = some (.int .i64 a0_0) := (blk_cell BK127.out 0).trans rfl; have hcz10_1 : w6.cell? ⟨gb127, 1, none⟩ = some (.int .i64 a0_1) := (blk_cell BK127.out 1).trans rfl; have hcz10_2 : w6.cell? ⟨gb127, 2, none⟩ = some (.slice A0_2 l0_2.length c0_2) := (blk_cell BK127.out 2).trans rfl; have hfz10_0 := blk_frozen BK127.out 0; have hfz10_1 := blk_frozen BK127.out 1; have hfz10_2 := blk_frozen BK127.out 2) | (go_at_call 40; (with_reducible refine (impl_AreDepots.calls k a0_0 a0_1 _ _ l0_2 _ _ l1 t129 _ ?side1 ?side2 ?side3 ?side4 A9.out).mono ?_); (case side1 => exact (Kd.C_below HR0_2.out (by repeat (first | (with_reducible first | exact HB.out | apply below_alloc | apply pw_below_drewN | apply below_drew1 | refine below_set ?_ GE127.out) | exact HB.out)))); (case side2 => exact HC0_2.out); (case side3 => exact (Kd.C_below HR1.out (by repeat (first | (with_reducible first | exact HB.out | apply below_alloc | apply pw_below_drewN | apply below_drew1 | refine below_set ?_ GE127.out) | exact HB.out)))); (case side4 => exact HC1.out); rintro e w11 ⟨rfl, hb⟩; have n0_ := Aside0.mk (blk_below (g := gb127) (o := .cells #[.int .i64 a0_0, .int .i64 a0_1, .slice A0_2 l0_2.length c0_2] 43 (0, 0)) (blk_up BK127.out) hb); have n1_ := Aside0.mk (below_step (by repeat (first | (with_reducible first | exact HB.out | apply below_alloc | apply pw_below_drewN | apply below_drew1 | refine below_set ?_ GE127.out) | exact HB.out)) hb); clear BK127; clear HB; have BK127 := n0_; have HB := n1_; clear n0_ n1_; (try clear hb); (try clear hb2); (try clear hk); (try clear hi)))
  go_meet
  case rel => exact ⟨_, (!t129), (by first | rfl | (simp; done) | (simp [*]; done)), H', ⟨by first | omega | exact Nat.le_refl _⟩, ⟨by (with_reducible repeat (first | refine blk_drewN ?_ _ | refine blk_drew ?_ | refine blk_alloc ?_ _)); exact BK127.out⟩, ⟨by repeat (first | (with_reducible first | exact HB.out | apply below_alloc | apply pw_below_drewN | apply below_drew1 | refine below_set ?_ GE127.out) | exact HB.out)⟩⟩
 case rest =>
  clear HC5
  try clear c1
  try clear p2
  try clear c3
  try clear c5
  try clear c8
  try clear hcz10_0
  try clear hcz10_1
  try clear hcz10_2
  try clear hfz10_0
  try clear hfz10_1
  try clear hfz10_2
  obtain ⟨kq, x20_4, rfl, HA, HJ4, BK127, HB⟩ := hcut
  cases kq with
  | zero => exact absurd HA.out (by simp [impl_Lay.j0])
  | succ kj4 =>
   have H := HA.out
   clear HA
   simp only [impl_Lay.j0] at H
   by_cases c12 : x20_4 = true
   · subst c12
     rw [if_pos rfl] at H
     replace H := Option.bind_eq_some_iff.mp H
     obtain ⟨t130, A130, H⟩ := H
     have A13 := Aside0.mk A130
     clear A130
     simp only [Option.some.injEq, Prod.mk.injEq] at H
     obtain ⟨rfl, rfl⟩ := H
     go_wp2_with (first | ((with_reducible refine gate_callee (f := 67) rfl ?_); refine goesL_ (some 22) rfl rfl Try.func67 (by kernel_rfl) rfl #[.slice A1 l1.length c1] rfl (by (try simp only [List.map_toArray, List.map_cons, List.map_nil]); first | done | rfl | (simp only [List.length_drop, List.length_take]; rfl)) ?_; (with_reducible refine (impl_copyDepots.calls _ _ l1 t130 _ ?side1 ?side2 A13.out).mono ?_); (case side1 => exact (Kd.C_below HR1.out (below_up HB.out))); (case side2 => exact HC1.out); rintro e w14 ⟨v131, rfl, ho0, hb⟩; refine ⟨_, rfl, ?_⟩; have n0_ := Aside0.mk (Kd.R_lower ho0 (below_size (by repeat (first | (with_reducible first | exact HB.out | apply below_alloc | apply pw_below_drewN | apply below_drew1 | refine below_set ?_ GE127.out) | exact HB.out)))); have n1_ := Aside0.mk (blk_below (g := gb127) (o := .cells #[.int .i64 a0_0, .int .i64 a0_1, .slice A0_2 l0_2.length c0_2] 43 (0, 0)) (blk_up BK127.out) hb); have n2_ := Aside0.mk (below_step (by repeat (first | (with_reducible first | exact HB.out | apply below_alloc | apply pw_below_drewN | apply below_drew1 | refine below_set ?_ GE127.out) | exact HB.out)) hb); clear BK127; clear HB; have HO132 := n0_; have BK127 := n1_; have HB := n2_; clear n0_ n1_ n2_; (try clear hb); (try clear hb2); (try clear hk); (try clear hi); (try clear ho0)))
     go_ret2
     exact ⟨_, by first | rfl | (simp [errW_none, errW_some] <;> rfl) | (simp [*, errW_none, errW_some] <;> rfl), by (with_reducible repeat (first | apply Kd.R_alloc | apply Kd.R_drewN | apply Kd.R_drew)); exact HO132.out, by repeat (first | (with_reducible first | exact HB.out | apply below_alloc | apply pw_below_drewN | apply below_drew1 | refine below_set ?_ GE127.out) | exact HB.out)⟩
   replace c12 := Bool.eq_false_iff.mpr c12
   subst c12
   rw [if_neg (show ¬ (false = true) by decide)] at H
   replace H := Option.bind_eq_some_iff.mp H
   obtain ⟨t133, A150, H⟩ := H
   have A15 := Aside0.mk A150
   clear A150
   have HC16 := Aside0.mk H
   clear H
   go_upto_block 0 with (first | ((with_reducible refine gate_callee (f := 67) rfl ?_); refine goesL_ (some 24) rfl rfl Try.func67 (by kernel_rfl) rfl #[.slice A1 l1.length c1] rfl (by (try simp only [List.map_toArray, List.map_cons, List.map_nil]); first | done | rfl | (simp only [List.length_drop, List.length_take]; rfl)) ?_; (with_reducible refine (impl_copyDepots.calls _ _ l1 t133 _ ?side1 ?side2 A15.out).mono ?_); (case side1 => exact (Kd.C_below HR1.out (below_up HB.out))); (case side2 => exact HC1.out); rintro e w17 ⟨v134, rfl, ho0, hb⟩; refine ⟨_, rfl, ?_⟩; have n0_ := Aside0.mk (Kd.R_lower ho0 (below_size (by repeat (first | (with_reducible first | exact HB.out | apply below_alloc | apply pw_below_drewN | apply below_drew1 | refine below_set ?_ GE127.out) | exact HB.out)))); have n1_ := Aside0.mk (blk_below (g := gb127) (o := .cells #[.int .i64 a0_0, .int .i64 a0_1, .slice A0_2 l0_2.length c0_2] 43 (0, 0)) (blk_up BK127.out) hb); have n2_ := Aside0.mk (below_step (by repeat (first | (with_reducible first | exact HB.out | apply below_alloc | apply pw_below_drewN | apply below_drew1 | refine below_set ?_ GE127.out) | exact HB.out)) hb); clear BK127; clear HB; have HO135 := n0_; have BK127 := n1_; have HB := n2_; clear n0_ n1_ n2_; (try clear hb); (try clear hb2); (try clear hk); (try clear hi); (try clear ho0)))
   (try simp only [Act.put, List.setIfInBounds_toArray, List.set_cons_zero, List.set_cons_succ])
   go_cut [11] (fun v11 wc => ∃ (kq : Nat) (x11_15 : Int), v11 = .int .i64 x11_15 ∧ Aside0 (impl_Lay.j2 kq l1 a2 a3 t133 x11_15 a0_0 a0_1 l0_2 = some (r1, r2)) ∧ Aside0 (kq ≤ kj4) ∧ Aside0 (Kd.R k66 66 wc w.heap.size (fun _ => True) v134 t133) ∧ Aside0 (wc.heap[gb127]? = some (.cells #[.int .i64 a0_0, .int .i64 a0_1, (.slice A0_2 l0_2.length c0_2)] 43 (0, 0))) ∧ Aside0 (Below w.heap.size w wc))
   case first =>
    have H := HC16.out
    clear HC16
    have H' := Aside0.mk H
    clear H
    go_wp2
    go_loopg [11] kj4 (fun kq v11 w' => ∃ (x11_2 : Int), v11 = .int .i64 x11_2 ∧ Aside0 (impl_Lay.l0 kq l1 a2 a3 t133 x11_2 a0_0 a0_1 l0_2 = some (r1, r2)) ∧ Aside0 (kq ≤ kj4) ∧ Aside0 (Kd.R k66 66 w' w.heap.size (fun _ => True) v134 t133) ∧ Aside0 (w'.heap[gb127]? = some (.cells #[.int .i64 a0_0, .int .i64 a0_1, (.slice A0_2 l0_2.length c0_2)] 43 (0, 0))) ∧ Aside0 (Below w.heap.size w w'))
    case atStart => exact ⟨(0), (by first | rfl | (simp; done) | (simp [*]; done)), H', ⟨Nat.le_refl _⟩, ⟨by (with_reducible repeat (first | apply Kd.R_alloc | apply Kd.R_drewN | apply Kd.R_drew)); exact HO135.out⟩, ⟨by (with_reducible repeat (first | refine blk_drewN ?_ _ | refine blk_drew ?_ | refine blk_alloc ?_ _)); exact BK127.out⟩, ⟨by repeat (first | (with_reducible first | exact HB.out | apply below_alloc | apply pw_below_drewN | apply below_drew1 | refine below_set ?_ GE127.out) | exact HB.out)⟩⟩
    case round =>
     clear H'
     try clear c1
     try clear p2
     try clear c3
     try clear c5
     try clear c6
     try clear c8
     try clear c12
     try clear hcz10_0
     try clear hcz10_1
     try clear hcz10_2
     try clear hfz10_0
     try clear hfz10_1
     try clear hfz10_2
     try clear p2
     obtain ⟨x11_2, rfl, HA, HK2, HO_10, BK127, HB⟩ := hrel
     cases gk with
     | zero => exact absurd HA.out (by simp [impl_Lay.l0])
     | succ k2 =>
      have H := HA.out
      clear HA
      simp only [impl_Lay.l0] at H
      by_cases c18 : x11_2 < (t133.length : Int)
      rotate_left
      · rw [if_neg c18] at H
        have c18b0 : decide (x11_2 < (t133.length : Int)) = false := decide_eq_false c18
        clear c18
        (first | rw [c18b0] | (simp only [i64_w, i32_w]; rw [c18b0]) | skip)
        have H' := Aside0.mk H
        clear H
        obtain ⟨Ao23, co23, eo23⟩ := Kd.R_slice HO_10.out
        subst eo23
        go_wp2
        go_meet
        case rel => exact ⟨_, (x11_2), (by first | rfl | (simp; done) | (simp [*]; done)), H', ⟨by have := HJ4.out; have := HK2.out; first | omega | exact Nat.le_refl _⟩, ⟨by (with_reducible repeat (first | apply Kd.R_alloc | apply Kd.R_drewN | apply Kd.R_drew)); exact HO_10.out⟩, ⟨by (with_reducible repeat (first | refine blk_drewN ?_ _ | refine blk_drew ?_ | refine blk_alloc ?_ _)); exact BK127.out⟩, ⟨by repeat (first | (with_reducible first | exact HB.out | apply below_alloc | apply pw_below_drewN | apply below_drew1 | refine below_set ?_ GE127.out) | exact HB.out)⟩⟩
      rw [if_pos c18] at H
      have c18b0 : decide (x11_2 < (t133.length : Int)) = true := decide_eq_true c18
      clear c18
      (first | rw [c18b0] | (simp only [i64_w, i32_w]; rw [c18b0]) | skip)
      by_cases c19 : 0 ≤ x11_2
      rotate_left
      · rw [if_neg c19] at H
        exact absurd H (by simp)
      rw [if_pos c19] at H
      have c19b0 : decide (0 ≤ x11_2) = true := decide_eq_true c19
      clear c19
      by_cases c20 : ((rd_T66 t133 x11_2).f0) < a2
      rotate_left
      · rw [if_neg c20] at H
        have c20b0 : decide (((rd_T66 t133 x11_2).f0) < a2) = false := decide_eq_false c20
        clear c20
        have H' := Aside0.mk H
        clear H
        obtain ⟨Ao22, co22, eo22⟩ := Kd.R_slice HO_10.out
        subst eo22
        have p136 : 0 ≤ (x11_2 : Int) := of_decide_eq_true (by first | (with_reducible assumption) | assumption)
        have q136 : x11_2 < (t133.length : Int) := of_decide_eq_true (by first | (with_reducible assumption) | assumption)
        obtain ⟨ad136, e136, hx136_0, hx136_1⟩ := at_T66 (Kd.R_reads' HO_10.out).2.2 x11_2 p136 q136
        cases e136
        replace p136 := eq_true p136
        replace q136 := eq_true q136
        go_wp2
        go_meet
        case rel => exact ⟨_, (x11_2), (by first | rfl | (simp; done) | (simp [*]; done)), H', ⟨by have := HJ4.out; have := HK2.out; first | omega | exact Nat.le_refl _⟩, ⟨by (with_reducible repeat (first | apply Kd.R_alloc | apply Kd.R_drewN | apply Kd.R_drew)); exact HO_10.out⟩, ⟨by (with_reducible repeat (first | refine blk_drewN ?_ _ | refine blk_drew ?_ | refine blk_alloc ?_ _)); exact BK127.out⟩, ⟨by repeat (first | (with_reducible first | exact HB.out | apply below_alloc | apply pw_below_drewN | apply below_drew1 | refine below_set ?_ GE127.out) | exact HB.out)⟩⟩
      rw [if_pos c20] at H
      have c20b0 : decide (((rd_T66 t133 x11_2).f0) < a2) = true := decide_eq_true c20
      clear c20
      have H' := Aside0.mk H
      clear H
      obtain ⟨Ao21, co21, eo21⟩ := Kd.R_slice HO_10.out
      subst eo21
      have p136 : 0 ≤ (x11_2 : Int) := of_decide_eq_true (by first | (with_reducible assumption) | assumption)
      have q136 : x11_2 < (t133.length : Int) := of_decide_eq_true (by first | (with_reducible assumption) | assumption)
      obtain ⟨ad136, e136, hx136_0, hx136_1⟩ := at_T66 (Kd.R_reads' HO_10.out).2.2 x11_2 p136 q136
      cases e136
      replace p136 := eq_true p136
      replace q136 := eq_true q136
      go_wp2
      go_roundg k2
      case measure => have := HJ4.out; have := HK2.out; omega
      case rel => exact ⟨(wrap64 (x11_2 + 1)), (by first | rfl | (simp; done) | (simp [*]; done)), H', ⟨by have := HJ4.out; have := HK2.out; omega⟩, ⟨by (with_reducible repeat (first | apply Kd.R_alloc | apply Kd.R_drewN | apply Kd.R_drew)); exact HO_10.out⟩, ⟨by (with_reducible repeat (first | refine blk_drewN ?_ _ | refine blk_drew ?_ | refine blk_alloc ?_ _)); exact BK127.out⟩, ⟨by repeat (first | (with_reducible first | exact HB.out | apply below_alloc | apply pw_below_drewN | apply below_drew1 | refine below_set ?_ GE127.out) | exact HB.out)⟩⟩
   case rest =>
    clear HC16
    try clear c1
    try clear p1
    try clear q1
    try clear hx1
    try clear c2
    try clear p2
    try clear c3
    try clear c5
    try clear c6
    try clear p6
    try clear c8
    try clear c12
    try clear p13
    try clear q13
    try clear hx13
    try clear c18
    try clear c18b0
    try clear c19
    try clear c19b0
    try clear c20
    try clear c20b0
    try clear hcz10_0
    try clear hcz10_1
    try clear hcz10_2
    try clear hfz10_0
    try clear hfz10_1
    try clear hfz10_2
    try clear hx136_0
    try clear hx136_1
    try clear p136
    try clear p2
    try clear q136
    obtain ⟨kq, x11_15, rfl, HA, HJ15, HO_10, BK127, HB⟩ := hcut
    cases kq with
    | zero => exact absurd HA.out (by simp [impl_Lay.j2])
    | succ kj15 =>
     have H := HA.out
     clear HA
     simp only [impl_Lay.j2] at H
     have HC24 := Aside0.mk H
     clear H
     go_upto_region 6 with (fail)
     go_cut [52] (fun v52 wc => ∃ (kq : Nat) (x52_23 : Bool), v52 = .bool x52_23 ∧ Aside0 (impl_Lay.j3 kq l1 a2 a3 t133 x11_15 x52_23 a0_0 a0_1 l0_2 = some (r1, r2)) ∧ Aside0 (kq ≤ kj15) ∧ Aside0 (Kd.R k66 66 wc w.heap.size (fun _ => True) v134 t133) ∧ Aside0 (wc.heap[gb127]? = some (.cells #[.int .i64 a0_0, .int .i64 a0_1, (.slice A0_2 l0_2.length c0_2)] 43 (0, 0))) ∧ Aside0 (Below w.heap.size w wc))
     case first =>
      have H := HC24.out
      clear HC24
      by_cases c25 : x11_15 < (t133.length : Int)
      rotate_left
      · rw [if_neg c25] at H
        have c25b0 : decide (x11_15 < (t133.length : Int)) = false := decide_eq_false c25
        clear c25
        (first | rw [c25b0] | (simp only [i64_w, i32_w]; rw [c25b0]) | skip)
        have H' := Aside0.mk H
        clear H
        obtain ⟨Ao28, co28, eo28⟩ := Kd.R_slice HO_10.out
        subst eo28
        go_wp2
        go_meet
        case rel => exact ⟨_, (false), (by first | rfl | (simp; done) | (simp [*]; done)), H', ⟨by have := HJ4.out; have := HJ15.out; first | omega | exact Nat.le_refl _⟩, ⟨by (with_reducible repeat (first | apply Kd.R_alloc | apply Kd.R_drewN | apply Kd.R_drew)); exact HO_10.out⟩, ⟨by (with_reducible repeat (first | refine blk_drewN ?_ _ | refine blk_drew ?_ | refine blk_alloc ?_ _)); exact BK127.out⟩, ⟨by repeat (first | (with_reducible first | exact HB.out | apply below_alloc | apply pw_below_drewN | apply below_drew1 | refine below_set ?_ GE127.out) | exact HB.out)⟩⟩
      rw [if_pos c25] at H
      have c25b0 : decide (x11_15 < (t133.length : Int)) = true := decide_eq_true c25
      clear c25
      (first | rw [c25b0] | (simp only [i64_w, i32_w]; rw [c25b0]) | skip)
      by_cases c26 : 0 ≤ x11_15
      rotate_left
      · rw [if_neg c26] at H
        exact absurd H (by simp)
      rw [if_pos c26] at H
      have c26b0 : decide (0 ≤ x11_15) = true := decide_eq_true c26
      clear c26
      have H' := Aside0.mk H
      clear H
      obtain ⟨Ao27, co27, eo27⟩ := Kd.R_slice HO_10.out
      subst eo27
      have p137 : 0 ≤ (x11_15 : Int) := of_decide_eq_true (by first | (with_reducible assumption) | assumption)
      have q137 : x11_15 < (t133.length : Int) := of_decide_eq_true (by first | (with_reducible assumption) | assumption)
      obtain ⟨ad137, e137, hx137_0, hx137_1⟩ := at_T66 (Kd.R_reads' HO_10.out).2.2 x11_15 p137 q137
      cases e137
      replace p137 := eq_true p137
      replace q137 := eq_true q137
      go_wp2
      go_meet
      case rel => exact ⟨_, ((((rd_T66 t133 x11_15).f0) == a2)), (by first | rfl | (simp; done) | (simp [*]; done)), H', ⟨by have := HJ4.out; have := HJ15.out; first | omega | exact Nat.le_refl _⟩, ⟨by (with_reducible repeat (first | apply Kd.R_alloc | apply Kd.R_drewN | apply Kd.R_drew)); exact HO_10.out⟩, ⟨by (with_reducible repeat (first | refine blk_drewN ?_ _ | refine blk_drew ?_ | refine blk_alloc ?_ _)); exact BK127.out⟩, ⟨by repeat (first | (with_reducible first | exact HB.out | apply below_alloc | apply pw_below_drewN | apply below_drew1 | refine below_set ?_ GE127.out) | exact HB.out)⟩⟩
     case rest =>
      clear HC24
      try clear c1
      try clear p1
      try clear q1
      try clear hx1
      try clear c2
      try clear p2
      try clear c3
      try clear c5
      try clear c6
      try clear p6
      try clear c8
      try clear c12
      try clear p13
      try clear q13
      try clear hx13
      try clear c18
      try clear c18b0
      try clear c19
      try clear c19b0
      try clear c20
      try clear c20b0
      try clear c25
      try clear c25b0
      try clear c26
      try clear c26b0
      try clear hcz10_0
      try clear hcz10_1
      try clear hcz10_2
      try clear hfz10_0
      try clear hfz10_1
      try clear hfz10_2
      try clear hx136_0
      try clear hx136_1
      try clear hx137_0
      try clear hx137_1
      try clear p1
      try clear p13
      try clear p136
      try clear p137
      try clear p2
      try clear p6
      try clear q1
      try clear q13
      try clear q136
      try clear q137
      obtain ⟨kq, x52_23, rfl, HA, HJ23, HO_10, BK127, HB⟩ := hcut
      cases kq with
      | zero => exact absurd HA.out (by simp [impl_Lay.j3])
      | succ kj23 =>
       have H := HA.out
       clear HA
       simp only [impl_Lay.j3] at H
       have HC29 := Aside0.mk H
       clear H
       go_upto_if 52 with (fail)
       go_cut [10] (fun v10 wc => ∃ (kq : Nat) (x10_28 : List (S66)), Aside0 (impl_Lay.j4 kq l1 x10_28 a0_0 a0_1 l0_2 = some (r1, r2)) ∧ Aside0 (kq ≤ kj23) ∧ Aside0 (Kd.R k66 66 wc w.heap.size (fun _ => True) v10 x10_28) ∧ Aside0 (wc.heap[gb127]? = some (.cells #[.int .i64 a0_0, .int .i64 a0_1, (.slice A0_2 l0_2.length c0_2)] 43 (0, 0))) ∧ Aside0 (Below w.heap.size w wc))
       case first =>
        have H := HC29.out
        clear HC29
        by_cases c30 : x52_23 = true
        · subst c30
          rw [if_pos rfl] at H
          by_cases c31 : 0 ≤ x11_15
          rotate_left
          · rw [if_neg c31] at H
            exact absurd H (by simp)
          rw [if_pos c31] at H
          have c31b0 : decide (0 ≤ x11_15) = true := decide_eq_true c31
          clear c31
          (first | rw [c31b0] | (simp only [i64_w, i32_w]; rw [c31b0]) | skip)
          by_cases c32 : x11_15 < (t133.length : Int)
          rotate_left
          · rw [if_neg c32] at H
            exact absurd H (by simp)
          rw [if_pos c32] at H
          have c32b0 : decide (x11_15 < (t133.length : Int)) = true := decide_eq_true c32
          clear c32
          obtain ⟨y139, hy139⟩ : ∃ y_ : List (S66), y_ = (t133.set (x11_15 : Int).toNat (⟨(rd_T66 t133 x11_15).f0, wrap64 (((rd_T66 t133 x11_15).f1) + a3)⟩ : S66)) := ⟨_, rfl⟩
          replace H : (impl_Lay.j4 kj23 l1 y139 a0_0 a0_1 l0_2) = some (r1, r2) := by first | (rw [hy139]; with_reducible exact H) | (have H2_ := (Option.bind_some _ _).symm.trans H; rw [hy139]; with_reducible exact H2_) | (have H2_ := (Option.bind_some _ _).symm.trans H; with_reducible exact H2_) | with_reducible exact H | (rw [hy139]; exact H) | exact H
          have Ny139 := Aside0.mk hy139
          clear hy139
          have H' := Aside0.mk H
          clear H
          obtain ⟨Ao34, co34, eo34⟩ := Kd.R_slice HO_10.out
          subst eo34
          have p138 : 0 ≤ (x11_15 : Int) := of_decide_eq_true (by first | (with_reducible assumption) | assumption)
          have q138 : x11_15 < (t133.length : Int) := of_decide_eq_true (by first | (with_reducible assumption) | assumption)
          obtain ⟨ad138, e138, hx138_0, hx138_1⟩ := at_T66 (Kd.R_reads' HO_10.out).2.2 x11_15 p138 q138
          cases e138
          replace p138 := eq_true p138
          replace q138 := eq_true q138
          have p33 : 0 ≤ (x11_15 : Int) := of_decide_eq_true (by first | (with_reducible assumption) | assumption)
          have q33 : (x11_15 : Int) < ((t133.length : Int) : Int) := of_decide_eq_true (by first | (with_reducible assumption) | assumption)
          obtain ⟨go33, co33, eo33, gb33, gl33, cl33, HG33⟩ := Kd.R_form HO_10.out (by omega)
          (first | cases eo33 | (injection eo33 with ea_ en_ ec_; (first | subst ea_ | (injection ea_ with ea_; subst ea_)); subst ec_; clear en_))
          have GB33 := Aside0.mk gb33
          have GG33 := Aside0.mk HG33
          clear gb33 gl33 HG33
          (first | simp only [add_plain] at hx138_0 | skip)
          (first | simp only [add_plain] at hx138_1 | skip)
          obtain ⟨ce33, hcl33, hM33, hcc33, hfr33⟩ := Kd.R_elem HO_10.out z66 (x11_15 : Int) p33 q33
          obtain rfl := k66_openM hM33
          have hx33_0 : wc.cell? ⟨go33, (x11_15 : Int).toNat * 2, none⟩ = some (.int .i64 ((rd_T66 t133 x11_15).f0)) := hcc33 0 _ rfl
          have hx33_1 : wc.cell? ⟨go33, (x11_15 : Int).toNat * 2 + 1, none⟩ = some (.int .i64 ((rd_T66 t133 x11_15).f1)) := hcc33 1 _ rfl
          have hf33_0 : wc.frozen? ⟨go33, (x11_15 : Int).toNat * 2, none⟩ = false := hfr33 0
          have hf33_1 : wc.frozen? ⟨go33, (x11_15 : Int).toNat * 2 + 1, none⟩ = false := hfr33 1
          clear hcl33 hcc33 hfr33 hM33
          replace p33 := eq_true p33
          replace q33 := eq_true q33
          have HX35 := Aside0.mk (show Kd.R k66 66 wc w.heap.size (fun _ => True) (.slice (some ⟨go33, 0, none⟩) t133.length co34) t133 from (Kd.R_up HO_10.out))
          obtain ⟨ce35, hcl35, hM35, hcc35, hfr35⟩ := Kd.R_elem HX35.out z66 (x11_15 : Int) (of_decide_eq_true (by first | (with_reducible assumption) | assumption)) (by have h_ : (x11_15 : Int) < ((t133.length : Int) : Int) := of_decide_eq_true (by first | (with_reducible assumption) | assumption); first | exact h_ | (have e_ := (Kd.R_reads' HO_10.out).1; omega) | simpa using h_)
          obtain rfl := k66_openM hM35
          have HP35 := Kd.R_seg HX35.out (x11_15 : Int) (of_decide_eq_true (by first | (with_reducible assumption) | assumption)) (by have h_ : (x11_15 : Int) < ((t133.length : Int) : Int) := of_decide_eq_true (by first | (with_reducible assumption) | assumption); first | exact h_ | (have e_ := (Kd.R_reads' HO_10.out).1; omega) | simpa using h_) (seg := [.int .i64 (wrap64 (((rd_T66 t133 x11_15).f1) + a3))]) (j := 1) hcl35 hcc35 (show 2 ≤ 2 from by decide) (x' := (⟨(rd_T66 t133 x11_15).f0, wrap64 (((rd_T66 t133 x11_15).f1) + a3)⟩ : S66)) (k66_mkM _ _ _ (⟨(rd_T66 t133 x11_15).f0, wrap64 (((rd_T66 t133 x11_15).f1) + a3)⟩ : S66) ) (fun _ hk => hk)
          have hx35_1 := hcc35 1 _ rfl
          (try simp only [show (k66).sz = 2 from rfl, Nat.mul_one, Nat.add_zero] at hx35_1)
          have hf35_1 := hfr35 1
          (try simp only [show (k66).sz = 2 from rfl, Nat.mul_one, Nat.add_zero] at hf35_1)
          clear hcl35 hcc35 hfr35 hM35
          go_wp2_with (first | ((with_reducible refine gate_store (t := 3) (p := 61) rfl ?_); refine store_event (t := 3) (p := 61) (v := ?vo_w36) (w1 := (wc.setCell ⟨go33, (x11_15 : Int).toNat * 2 + 1, none⟩ (.int .i64 (wrap64 (((rd_T66 t133 x11_15).f1) + a3))))) ?hg ?ho ?hn ?hr ?_; (case ho => rfl); (case hg => rfl); (case hn => rfl); (case hr => first | (go_simp; done) | (go_simp; rfl)); intro w36 hw; have hg : wc.grownBy w36 (some go33) := (by rw [hw]; exact HP35.2); have hp_ : Kd.R k66 66 w36 w.heap.size (fun _ => True) (.slice (some ⟨go33, 0, none⟩) t133.length co34) y139 := (by rw [hw, Ny139.out]; exact HP35.1); clear HP35; have n0_ := Aside0.mk (hp_); have n1_ := Aside0.mk (blk_grown (g := gb127) (o := .cells #[.int .i64 a0_0, .int .i64 a0_1, .slice A0_2 l0_2.length c0_2] 43 (0, 0)) (blk_up BK127.out) hg (Kd.R_ne HO_10.out BK127.out (by decide))); have n2_ := Aside0.mk ((by rw [hw]; exact below_set (HB.out) GB33.out : Below w.heap.size w w36)); clear HO_10; clear BK127; clear HB; have HO_10 := n0_; have BK127 := n1_; have HB := n2_; clear n0_ n1_ n2_; clear hg hw hp_))
          go_meet
          case rel => exact ⟨_, (y139), H', ⟨by have := HJ4.out; have := HJ15.out; have := HJ23.out; first | omega | exact Nat.le_refl _⟩, ⟨by (with_reducible repeat (first | apply Kd.R_alloc | apply Kd.R_drewN | apply Kd.R_drew)); exact HO_10.out⟩, ⟨by (with_reducible repeat (first | refine blk_drewN ?_ _ | refine blk_drew ?_ | refine blk_alloc ?_ _)); exact BK127.out⟩, ⟨by repeat (first | (with_reducible first | exact HB.out | apply below_alloc | apply pw_below_drewN | apply below_drew1 | refine below_set ?_ GE127.out) | exact HB.out)⟩⟩
        replace c30 := Bool.eq_false_iff.mpr c30
        subst c30
        rw [if_neg (show ¬ (false = true) by decide)] at H
        by_cases c37 : t133.length < 8796093022208
        rotate_left
        · rw [if_neg c37] at H
          exact absurd H (by simp)
        rw [if_pos c37] at H
        have LMc37 := Aside0.mk c37
        clear c37
        obtain ⟨y140, hy140⟩ : ∃ y_ : List (S66), y_ = (t133 ++ [(⟨0, 0⟩ : S66)]) := ⟨_, rfl⟩
        replace H : (if 0 ≤ (wrap64 (x11_15 + 1)) then (if (wrap64 (x11_15 + 1)) ≤ (y140.length : Int) then (if 0 ≤ x11_15 then (if x11_15 ≤ (y140.length : Int) then (if x11_15 < (y140.length : Int) then (impl_Lay.j4 kj23 l1 ((Go.Proofs.Ytdgpnmbmnnmdcaa.Copy.shiftS y140 (x11_15 : Int).toNat).set (x11_15 : Int).toNat (⟨a2, a3⟩ : S66)) a0_0 a0_1 l0_2) else (none)) else (none)) else (none)) else (none)) else (none)) = some (r1, r2) := by first | (rw [hy140]; with_reducible exact H) | (have H2_ := (Option.bind_some _ _).symm.trans H; rw [hy140]; with_reducible exact H2_) | (have H2_ := (Option.bind_some _ _).symm.trans H; with_reducible exact H2_) | with_reducible exact H | (rw [hy140]; exact H) | exact H
        have Ny140 := Aside0.mk hy140
        clear hy140
        obtain ⟨ji38, hji38⟩ : ∃ j_ : Int, (wrap64 (x11_15 + 1)) = j_ := ⟨_, rfl⟩
        replace H : (if 0 ≤ (ji38) then (if (ji38) ≤ (y140.length : Int) then (if 0 ≤ x11_15 then (if x11_15 ≤ (y140.length : Int) then (if x11_15 < (y140.length : Int) then (impl_Lay.j4 kj23 l1 ((Go.Proofs.Ytdgpnmbmnnmdcaa.Copy.shiftS y140 (x11_15 : Int).toNat).set (x11_15 : Int).toNat (⟨a2, a3⟩ : S66)) a0_0 a0_1 l0_2) else (none)) else (none)) else (none)) else (none)) else (none)) = some (r1, r2) := by first | (rw [hji38] at H; exact H) | (simp only [hji38] at H ⊢; exact H)
        have hji38w : (IntKind.i64.wrap (x11_15 + 1)) = ji38 := (i64_w _).trans hji38
        by_cases c39 : 0 ≤ (ji38)
        rotate_left
        · rw [if_neg c39] at H
          exact absurd H (by simp)
        rw [if_pos c39] at H
        have c39b0 := eq_true c39
        have c39b1 : decide (0 ≤ (ji38)) = true := decide_eq_true c39
        clear c39
        by_cases c40 : (ji38) ≤ (y140.length : Int)
        rotate_left
        · rw [if_neg c40] at H
          exact absurd H (by simp)
        rw [if_pos c40] at H
        have c40b0 := eq_true c40
        have c40b1 : decide ((ji38) ≤ (y140.length : Int)) = true := decide_eq_true c40
        clear c40
        obtain ⟨y143, hy143⟩ : ∃ y_ : List (S66), y_ = (y140.drop ((ji38) : Int).toNat) := ⟨_, rfl⟩
        replace H : (if 0 ≤ x11_15 then (if x11_15 ≤ (y140.length : Int) then (if x11_15 < (y140.length : Int) then (impl_Lay.j4 kj23 l1 ((Go.Proofs.Ytdgpnmbmnnmdcaa.Copy.shiftS y140 (x11_15 : Int).toNat).set (x11_15 : Int).toNat (⟨a2, a3⟩ : S66)) a0_0 a0_1 l0_2) else (none)) else (none)) else (none)) = some (r1, r2) := by first | (rw [hy143]; with_reducible exact H) | (have H2_ := (Option.bind_some _ _).symm.trans H; rw [hy143]; with_reducible exact H2_) | (have H2_ := (Option.bind_some _ _).symm.trans H; with_reducible exact H2_) | with_reducible exact H | (rw [hy143]; exact H) | exact H
        have Ny143 := Aside0.mk hy143
        clear hy143
        by_cases c41 : 0 ≤ x11_15
        rotate_left
        · rw [if_neg c41] at H
          exact absurd H (by simp)
        rw [if_pos c41] at H
        have c41b0 := eq_true c41
        have c41b1 : decide (0 ≤ x11_15) = true := decide_eq_true c41
        clear c41
        by_cases c42 : x11_15 ≤ (y140.length : Int)
        rotate_left
        · rw [if_neg c42] at H
          exact absurd H (by simp)
        rw [if_pos c42] at H
        have c42b0 := eq_true c42
        have c42b1 : decide (x11_15 ≤ (y140.length : Int)) = true := decide_eq_true c42
        clear c42
        obtain ⟨y147, hy147⟩ : ∃ y_ : List (S66), y_ = (y140.drop (x11_15 : Int).toNat) := ⟨_, rfl⟩
        replace H : (if x11_15 < (y140.length : Int) then (impl_Lay.j4 kj23 l1 ((Go.Proofs.Ytdgpnmbmnnmdcaa.Copy.shiftS y140 (x11_15 : Int).toNat).set (x11_15 : Int).toNat (⟨a2, a3⟩ : S66)) a0_0 a0_1 l0_2) else (none)) = some (r1, r2) := by first | (rw [hy147]; with_reducible exact H) | (have H2_ := (Option.bind_some _ _).symm.trans H; rw [hy147]; with_reducible exact H2_) | (have H2_ := (Option.bind_some _ _).symm.trans H; with_reducible exact H2_) | with_reducible exact H | (rw [hy147]; exact H) | exact H
        have Ny147 := Aside0.mk hy147
        clear hy147
        obtain ⟨y151, hy151⟩ : ∃ y_ : List (S66), y_ = (Go.Proofs.Ytdgpnmbmnnmdcaa.Copy.shiftS y140 (x11_15 : Int).toNat) := ⟨_, rfl⟩
        replace H : (if x11_15 < (y140.length : Int) then (impl_Lay.j4 kj23 l1 (y151.set (x11_15 : Int).toNat (⟨a2, a3⟩ : S66)) a0_0 a0_1 l0_2) else (none)) = some (r1, r2) := by first | (rw [hy151]; with_reducible exact H) | (have H2_ := (Option.bind_some _ _).symm.trans H; rw [hy151]; with_reducible exact H2_) | (have H2_ := (Option.bind_some _ _).symm.trans H; with_reducible exact H2_) | with_reducible exact H | (rw [hy151]; exact H) | exact H
        have Ny151 := Aside0.mk hy151
        clear hy151
        by_cases c43 : x11_15 < (y140.length : Int)
        rotate_left
        · rw [if_neg c43] at H
          exact absurd H (by simp)
        rw [if_pos c43] at H
        have c43b0 : decide (x11_15 < (y140.length : Int)) = true := decide_eq_true c43
        clear c43
        obtain ⟨y152, hy152⟩ : ∃ y_ : List (S66), y_ = (y151.set (x11_15 : Int).toNat (⟨a2, a3⟩ : S66)) := ⟨_, rfl⟩
        replace H : (impl_Lay.j4 kj23 l1 y152 a0_0 a0_1 l0_2) = some (r1, r2) := by first | (rw [hy152]; with_reducible exact H) | (have H2_ := (Option.bind_some _ _).symm.trans H; rw [hy152]; with_reducible exact H2_) | (have H2_ := (Option.bind_some _ _).symm.trans H; with_reducible exact H2_) | with_reducible exact H | (rw [hy152]; exact H) | exact H
        have Ny152 := Aside0.mk hy152
        clear hy152
        have H' := Aside0.mk H
        clear H
        try go_wp2_with (first | ((with_reducible refine gate_builtin (b := .append) (xs := #[.tmp 62, .tmp 64]) rfl ?_); at_builtin; refine Kd.R_append k66 (w0 := w) w.heap.size rfl (.tmp 62) (.tmp 64) 51 66 (.agg #[(.int .i64 0), (.int .i64 0)]) 16 rfl Try.underlying51 info66 rfl (by decide) (by omega) v134 t133 (⟨0, 0⟩ : S66) [.int .i64 0, .int .i64 0] (fun _ => True) (fun _ => False) rfl rfl ?aP (fun _ hk => hk.elim) ?aF ?aO ?aB ?aS ?aL ?_; (case aP => exact k66_mkM _ _ _ (⟨0, 0⟩ : S66)); (case aB => exact (by repeat (first | (with_reducible first | exact HB.out | apply below_alloc | apply pw_below_drewN | apply below_drew1 | refine below_set ?_ GE127.out) | exact HB.out))); (case aF => exact (fun _ _ => trivial)); (case aO => exact (by (with_reducible repeat (first | apply Kd.R_alloc | apply Kd.R_drewN | apply Kd.R_drew)); exact HO_10.out)); (case aS => exact (below_size (by repeat (first | (with_reducible first | exact HB.out | apply below_alloc | apply pw_below_drewN | apply below_drew1 | refine below_set ?_ GE127.out) | exact HB.out)))); (case aL => have := LMc37.out; omega); intro v141 w45 ho hb hg hat; rw [← Ny140.out] at ho; have n0_ := Aside0.mk (blk_grown (g := gb127) (o := .cells #[.int .i64 a0_0, .int .i64 a0_1, .slice A0_2 l0_2.length c0_2] 43 (0, 0)) (blk_up BK127.out) hg (Kd.R_ne HO_10.out BK127.out (by decide))); have n1_ := Aside0.mk (hb); have n2_ := Aside0.mk (ho); clear BK127; clear HB; clear HO_10; have BK127 := n0_; have HB := n1_; have HO142 := n2_; clear n0_ n1_ n2_; clear ho hb hg hat))
        have n0_ := Aside0.mk (Kd.R_drew HO142.out)
        have n1_ := Aside0.mk (blk_drew BK127.out)
        have n2_ := Aside0.mk (below_drew1 HB.out)
        clear HO142
        clear BK127
        clear HB
        have HO142 := n0_
        have BK127 := n1_
        have HB := n2_
        clear n0_ n1_ n2_
        obtain ⟨Ao48, co48, eo48⟩ := Kd.R_slice HO142.out
        (first | subst eo48 | (injection eo48 with f1_ f2_ f3_; have f4_ := f1_.symm; have f5_ := f3_.symm; clear f1_ f2_ f3_; subst f4_; subst f5_))
        have q47 : ((ji38) : Int) ≤ ((y140.length : Int) : Int) := of_decide_eq_true (by first | (with_reducible assumption) | assumption)
        obtain ⟨i047, hi047, _, hsz47, _⟩ := info_parts info66
        have hroom47 : y140.length ≤ co48 := (Kd.R_reads' HO142.out).2.1
        have hC47 : Kd.C k66 _ Ao48 y140.length y140 := (Kd.R_reads' HO142.out).2.2
        have q047 : (0 : Int) ≤ ((ji38) : Int) := of_decide_eq_true (by first | (with_reducible assumption) | assumption)
        have hcut47 := cut_from (P := Try.prog) 51 66 .i64 Try.underlying51 hi047 2 hsz47 Ao48 y140.length co48 (ji38) q047 q47
        have hr47 := Kd.C_drop (m := ((ji38) : Int).toNat) (c := co48) hC47 (by omega) hroom47
        obtain ⟨A47, hA47⟩ : ∃ A1, A1 = (if co48 = ((ji38) : Int).toNat then Ao48 else (Ao48 : Option Addr).map (·.add (((ji38) : Int).toNat * 2))) := ⟨_, rfl⟩
        obtain ⟨c47, hc47⟩ : ∃ c1, c1 = co48 - ((ji38) : Int).toNat := ⟨_, rfl⟩
        have hy47 : y143.length = y140.length - ((ji38) : Int).toNat := (by rw [Ny143.out, List.length_drop] <;> omega)
        rw [show (y140).drop ((ji38) : Int).toNat = y143 from Ny143.out.symm] at hr47
        replace hr47 : Kd.C k66 _ A47 y143.length y143 := (by rw [hA47]; exact hr47)
        rw [← hy47, ← hA47, ← hc47] at hcut47
        have HR146 := Aside0.mk hr47
        have HC146 := Aside0.mk (show y143.length ≤ c47 from by rw [hy47, hc47]; exact Nat.sub_le_sub_right hroom47 _)
        clear hr47 hC47 hroom47 hi047 hsz47 hc47
        have KY47 := Aside0.mk hy47
        have KA47 := Aside0.mk hA47
        clear hy47 hA47
        have KL47 := Aside0.mk (show ((ji38) : Int).toNat ≤ y140.length from by omega)
        replace q47 := eq_true q47
        have q49 : (x11_15 : Int) ≤ ((y140.length : Int) : Int) := of_decide_eq_true (by first | (with_reducible assumption) | assumption)
        obtain ⟨i049, hi049, _, hsz49, _⟩ := info_parts info66
        have hroom49 : y140.length ≤ co48 := (Kd.R_reads' HO142.out).2.1
        have hC49 : Kd.C k66 _ Ao48 y140.length y140 := (Kd.R_reads' HO142.out).2.2
        have q049 : (0 : Int) ≤ (x11_15 : Int) := of_decide_eq_true (by first | (with_reducible assumption) | assumption)
        have hcut49 := cut_from (P := Try.prog) 51 66 .i64 Try.underlying51 hi049 2 hsz49 Ao48 y140.length co48 x11_15 q049 q49
        have hr49 := Kd.C_drop (m := (x11_15 : Int).toNat) (c := co48) hC49 (by omega) hroom49
        obtain ⟨A49, hA49⟩ : ∃ A1, A1 = (if co48 = (x11_15 : Int).toNat then Ao48 else (Ao48 : Option Addr).map (·.add ((x11_15 : Int).toNat * 2))) := ⟨_, rfl⟩
        obtain ⟨c49, hc49⟩ : ∃ c1, c1 = co48 - (x11_15 : Int).toNat := ⟨_, rfl⟩
        have hy49 : y147.length = y140.length - (x11_15 : Int).toNat := (by rw [Ny147.out, List.length_drop] <;> omega)
        rw [show (y140).drop (x11_15 : Int).toNat = y147 from Ny147.out.symm] at hr49
        replace hr49 : Kd.C k66 _ A49 y147.length y147 := (by rw [hA49]; exact hr49)
        rw [← hy49, ← hA49, ← hc49] at hcut49
        have HR150 := Aside0.mk hr49
        have HC150 := Aside0.mk (show y147.length ≤ c49 from by rw [hy49, hc49]; exact Nat.sub_le_sub_right hroom49 _)
        clear hr49 hC49 hroom49 hi049 hsz49 hc49
        have KY49 := Aside0.mk hy49
        have KA49 := Aside0.mk hA49
        clear hy49 hA49
        have KL49 := Aside0.mk (show (x11_15 : Int).toNat ≤ y140.length from by omega)
        replace q49 := eq_true q49
        obtain ⟨go51, co51, eo51, gb51, gl51, cl51, HG51⟩ := Kd.R_form HO142.out (by have hj_ : 0 ≤ (x11_15 : Int) := of_decide_eq_true (by first | (with_reducible assumption) | assumption); have hl_ : (ji38 : Int) ≤ (y140.length : Int) := of_decide_eq_true (by first | (with_reducible assumption) | assumption); have hh_ : (x11_15 : Int) ≤ (y140.length : Int) := of_decide_eq_true (by first | (with_reducible assumption) | assumption); rw [← hji38] at hl_; unfold wrap64 at hl_; omega)
        (first | cases eo51 | (injection eo51 with ea_ en_ ec_; (first | subst ea_ | (injection ea_ with ea_; subst ea_)); subst ec_; clear en_))
        have GB51 := Aside0.mk gb51
        have GG51 := Aside0.mk HG51
        clear gb51 gl51 HG51
        refine start_ (n := 8) (S := fun w' => True) (ds := []) (ar 8 0 []) (by kernel_rfl) rfl rfl trivial (fun hHeld => ?_); refine with_tabW impl_Lay.tab9 impl_Lay.bits9 (fun HT_ HW_ => ?_)
        generalize w45.drew = w46 at HO142 BK127 HB GG51 HR146 HR150 hHeld ⊢
        refine pure_ (i := 0) (N := some 66) (v := ?_) (a' := ?_) (ar 8 1 []) rfl rfl (any_of HT_.out (by kernel_rfl)) (fun _ _ _ h => h) (Or.inl ⟨by rfl, ?_⟩) ?_ ?_
        rotate_left
        · intro w'
          go_simp
          with_reducible rfl
        rotate_left
        · simp only [Act.put, List.setIfInBounds_toArray, List.set_cons_zero, List.set_cons_succ, i64_w, i32_w]
          rfl
        refine pure_ (i := 1) (N := some 67) (v := ?_) (a' := ?_) (ar 8 2 []) rfl rfl (any_of HT_.out (by kernel_rfl)) (fun _ _ _ h => h) (Or.inl ⟨by rfl, ?_⟩) ?_ ?_
        rotate_left
        · intro w'
          go_simp
          with_reducible rfl
        rotate_left
        · simp only [Act.put, List.setIfInBounds_toArray, List.set_cons_zero, List.set_cons_succ, i64_w, i32_w]
          rfl
        refine pure_ (i := 2) (N := some 68) (v := ?_) (a' := ?_) (ar 8 3 []) rfl rfl (any_of HT_.out (by kernel_rfl)) (fun _ _ _ h => h) (Or.inl ⟨by rfl, ?_⟩) ?_ ?_
        rotate_left
        · intro w'
          go_simp
          with_reducible rfl
        rotate_left
        · simp only [Act.put, List.setIfInBounds_toArray, List.set_cons_zero, List.set_cons_succ, i64_w, i32_w]
          rfl
        refine pure_ (i := 3) (N := some 69) (v := ?_) (a' := ?_) (ar 8 4 []) rfl rfl (any_of HT_.out (by kernel_rfl)) (fun _ _ _ h => h) (Or.inl ⟨by rfl, ?_⟩) ?_ ?_
        rotate_left
        · intro w'
          go_simp
          with_reducible rfl
        rotate_left
        · simp only [Act.put, List.setIfInBounds_toArray, List.set_cons_zero, List.set_cons_succ, i64_w, i32_w]
          rfl
        refine pure_ (i := 4) (N := some 70) (v := ?_) (a' := ?_) (ar 8 5 []) rfl rfl (any_of HT_.out (by kernel_rfl)) (fun _ _ _ h => h) (Or.inl ⟨by rfl, ?_⟩) ?_ ?_
        rotate_left
        · intro w'
          go_simp
          with_reducible rfl
        rotate_left
        · simp only [Act.put, List.setIfInBounds_toArray, List.set_cons_zero, List.set_cons_succ, i64_w, i32_w]
          rfl
        refine pure_ (i := 5) (N := some 71) (v := ?_) (a' := ?_) (ar 8 6 []) rfl rfl (any_of HT_.out (by kernel_rfl)) (fun _ _ _ h => h) (Or.inl ⟨by rfl, ?_⟩) ?_ ?_
        rotate_left
        · intro w'
          go_simp
          with_reducible rfl
        rotate_left
        · simp only [Act.put, List.setIfInBounds_toArray, List.set_cons_zero, List.set_cons_succ, i64_w, i32_w]
          rfl
        refine pure_ (i := 6) (N := some 72) (v := ?_) (a' := ?_) (ar 8 7 []) rfl rfl (any_of HT_.out (by kernel_rfl)) (fun _ _ _ h => h) (Or.inl ⟨by rfl, ?_⟩) ?_ ?_
        rotate_left
        · intro w'
          go_simp
          with_reducible rfl
        rotate_left
        · simp only [Act.put, List.setIfInBounds_toArray, List.set_cons_zero, List.set_cons_succ, i64_w, i32_w]
          rfl
        refine one_ (i := 7) (N := some 73) (ar 8 8 []) rfl rfl (one_of HT_.out (by kernel_rfl)) (by decide) (fun K hK => ?_)
        have hj_ : 0 ≤ (x11_15 : Int) := of_decide_eq_true (by first | (with_reducible assumption) | assumption)
        have hl_ : (ji38 : Int) ≤ (y140.length : Int) := of_decide_eq_true (by first | (with_reducible assumption) | assumption)
        have hh_ : (x11_15 : Int) ≤ (y140.length : Int) := of_decide_eq_true (by first | (with_reducible assumption) | assumption)
        have h0_ : (0 : Int) ≤ (ji38 : Int) := of_decide_eq_true (by first | (with_reducible assumption) | assumption)
        have hb_ := (Kd.R_reads' HO142.out).2.2.2.1
        have hy1_ := KY47.out
        have hy2_ := KY49.out
        have hk_ : (ji38 : Int).toNat = (x11_15 : Int).toNat + 1 := (by have hw_ : (ji38 : Int) = x11_15 + 1 := (by have h00_ := h0_; rw [← hji38] at h00_ ⊢; unfold wrap64 at h00_ ⊢; omega); rw [hw_]; omega)
        refine Go.Proofs.Ytdgpnmbmnnmdcaa.Copy.copy_shift_step k66 rfl (fun h_ => h_) (w0 := w) (base := w.heap.size) (by rfl) (.tmp 69) (.tmp 72) 51 66 rfl Try.underlying51 (by kernel_rfl) y140 (x11_15 : Int).toNat ?hi _ _ _ _ _ _ rfl rfl ?hnA ?hnB ?hA ?hB (by (with_reducible repeat (first | apply Kd.R_alloc | apply Kd.R_drewN | apply Kd.R_drew)); exact HO142.out) (by repeat (first | (with_reducible first | exact HB.out | apply below_alloc | apply pw_below_drewN | apply below_drew1 | refine below_set ?_ GE127.out) | exact HB.out)) ?_
        (case hi => omega)
        (case hnA => rw [hk_] at hy1_; exact hy1_)
        (case hnB => exact hy2_)
        (case hA => have ha_ := KA47.out; rw [hk_] at ha_; exact ha_)
        (case hB => exact KA49.out)
        intro w50 ho hb hg
        clear hj_ hl_ hh_ h0_ hb_ hk_ hy1_ hy2_
        rw [← Ny151.out] at ho
        have n0_ := Aside0.mk (blk_grown (g := gb127) (o := .cells #[.int .i64 a0_0, .int .i64 a0_1, .slice A0_2 l0_2.length c0_2] 43 (0, 0)) (blk_up BK127.out) hg (Kd.R_ne HO142.out BK127.out (by decide)))
        have n1_ := Aside0.mk (ho)
        have n2_ := Aside0.mk (hb)
        clear BK127
        clear HO142
        clear HB
        have BK127 := n0_
        have HO142 := n1_
        have HB := n2_
        clear n0_ n1_ n2_
        clear ho hb hg
        refine hK.out _ _ trivial (fun hHeld => ?_)
        clear hK K
        refine norm_ (a' := ?_) ?_ ?_
        rotate_left
        · show Act.put _ (some 73) _ = _
          simp only [Act.put, List.setIfInBounds_toArray, List.set_cons_zero, List.set_cons_succ, i64_w, i32_w]
          rfl
        refine done_ (done_of HT_.out (by kernel_rfl)) ?_
        have p44 : 0 ≤ (x11_15 : Int) := of_decide_eq_true (by first | (with_reducible assumption) | assumption)
        have q44 : (x11_15 : Int) < ((y140.length : Int) : Int) := of_decide_eq_true (by first | (with_reducible assumption) | assumption)
        obtain ⟨ce44, hcl44, hM44, hcc44, hfr44⟩ := Kd.R_elem HO142.out z66 (x11_15 : Int) p44 q44
        obtain rfl := k66_openM hM44
        have hx44_0 : w50.cell? ⟨go51, (x11_15 : Int).toNat * 2, none⟩ = some (.int .i64 ((rd_T66 y151 x11_15).f0)) := hcc44 0 _ rfl
        have hx44_1 : w50.cell? ⟨go51, (x11_15 : Int).toNat * 2 + 1, none⟩ = some (.int .i64 ((rd_T66 y151 x11_15).f1)) := hcc44 1 _ rfl
        have hf44_0 : w50.frozen? ⟨go51, (x11_15 : Int).toNat * 2, none⟩ = false := hfr44 0
        have hf44_1 : w50.frozen? ⟨go51, (x11_15 : Int).toNat * 2 + 1, none⟩ = false := hfr44 1
        clear hcl44 hcc44 hfr44 hM44
        replace p44 := eq_true p44
        replace q44 := eq_true q44
        have HX52 := Aside0.mk (show Kd.R k66 66 w50 w.heap.size (fun _ => True) (.slice (some ⟨go51, 0, none⟩) y140.length co48) y151 from (Kd.R_up HO142.out))
        obtain ⟨ce52, hcl52, hM52, hcc52, hfr52⟩ := Kd.R_elem HX52.out z66 (x11_15 : Int) (of_decide_eq_true (by first | (with_reducible assumption) | assumption)) (by have h_ : (x11_15 : Int) < ((y140.length : Int) : Int) := of_decide_eq_true (by first | (with_reducible assumption) | assumption); first | exact h_ | (have e_ := (Kd.R_reads' HO142.out).1; omega) | simpa using h_)
        obtain rfl := k66_openM hM52
        have HP52 := Kd.R_seg HX52.out (x11_15 : Int) (of_decide_eq_true (by first | (with_reducible assumption) | assumption)) (by have h_ : (x11_15 : Int) < ((y140.length : Int) : Int) := of_decide_eq_true (by first | (with_reducible assumption) | assumption); first | exact h_ | (have e_ := (Kd.R_reads' HO142.out).1; omega) | simpa using h_) (seg := [.int .i64 a2, .int .i64 a3]) (j := 0) hcl52 hcc52 (show 2 ≤ 2 from by decide) (x' := (⟨a2, a3⟩ : S66)) (k66_mkM _ _ _ (⟨a2, a3⟩ : S66) ) (fun _ hk => hk)
        have hx52_0 := hcc52 0 _ rfl
        (try simp only [show (k66).sz = 2 from rfl, Nat.mul_one, Nat.add_zero] at hx52_0)
        have hf52_0 := hfr52 0
        (try simp only [show (k66).sz = 2 from rfl, Nat.mul_one, Nat.add_zero] at hf52_0)
        have hx52_1 := hcc52 1 _ rfl
        (try simp only [show (k66).sz = 2 from rfl, Nat.mul_one, Nat.add_zero] at hx52_1)
        have hf52_1 := hfr52 1
        (try simp only [show (k66).sz = 2 from rfl, Nat.mul_one, Nat.add_zero] at hf52_1)
        clear hcl52 hcc52 hfr52 hM52
        try go_wp2_with (first | ((with_reducible refine gate_store (t := 66) (p := 79) rfl ?_); refine store_event (t := 66) (p := 79) (v := ?vo_w53) (w1 := ((w50.setCell ⟨go51, (x11_15 : Int).toNat * 2, none⟩ (.int .i64 a2)).setCell ⟨go51, (x11_15 : Int).toNat * 2 + 1, none⟩ (.int .i64 a3))) ?hg ?ho ?hn ?hr ?_; (case ho => rfl); (case hg => rfl); (case hn => rfl); (case hr => first | (go_simp; done) | (go_simp; rfl)); intro w53 hw; have hg : w50.grownBy w53 (some go51) := (by rw [hw]; exact HP52.2); have hp_ : Kd.R k66 66 w53 w.heap.size (fun _ => True) (.slice (some ⟨go51, 0, none⟩) y140.length co48) y152 := (by rw [hw, Ny152.out]; exact HP52.1); clear HP52; have n0_ := Aside0.mk (blk_grown (g := gb127) (o := .cells #[.int .i64 a0_0, .int .i64 a0_1, .slice A0_2 l0_2.length c0_2] 43 (0, 0)) (blk_up BK127.out) hg (Kd.R_ne HO142.out BK127.out (by decide))); have n1_ := Aside0.mk (hp_); have n2_ := Aside0.mk ((by rw [hw]; exact below_set (below_set (HB.out) GB51.out) GB51.out : Below w.heap.size w w53)); clear BK127; clear HO142; clear HB; have BK127 := n0_; have HO142 := n1_; have HB := n2_; clear n0_ n1_ n2_; clear hg hw hp_))
        go_meet
        case rel => exact ⟨_, (y152), H', ⟨by have := HJ4.out; have := HJ15.out; have := HJ23.out; first | omega | exact Nat.le_refl _⟩, ⟨by (with_reducible repeat (first | apply Kd.R_alloc | apply Kd.R_drewN | apply Kd.R_drew)); exact HO142.out⟩, ⟨by (with_reducible repeat (first | refine blk_drewN ?_ _ | refine blk_drew ?_ | refine blk_alloc ?_ _)); exact BK127.out⟩, ⟨by repeat (first | (with_reducible first | exact HB.out | apply below_alloc | apply pw_below_drewN | apply below_drew1 | refine below_set ?_ GE127.out) | exact HB.out)⟩⟩
       case rest =>
        clear HC29
        try clear c1
        try clear p1
        try clear q1
        try clear hx1
        try clear c2
        try clear p2
        try clear c3
        try clear p3
        try clear q3
        try clear hx3
        try clear c4
        try clear p4
        try clear q4
        try clear hx4
        try clear hf4
        try clear c5
        try clear hx5
        try clear hf5
        try clear c6
        try clear p6
        try clear c8
        try clear c12
        try clear p13
        try clear q13
        try clear hx13
        try clear c18
        try clear c18b0
        try clear c19
        try clear c19b0
        try clear c20
        try clear c20b0
        try clear c25
        try clear c25b0
        try clear c26
        try clear c26b0
        try clear c30
        try clear c31
        try clear c31b0
        try clear c32
        try clear c32b0
        try clear c33
        try clear p33
        try clear q33
        try clear hx33
        try clear hf33
        try clear c35
        try clear hx35
        try clear hf35
        try clear c37
        try clear c39
        try clear c39b0
        try clear c39b1
        try clear c40
        try clear c40b0
        try clear c40b1
        try clear c41
        try clear c41b0
        try clear c41b1
        try clear c42
        try clear c42b0
        try clear c42b1
        try clear c43
        try clear c43b0
        try clear c44
        try clear p44
        try clear q44
        try clear hx44
        try clear hf44
        try clear c47
        try clear q47
        try clear c49
        try clear q49
        try clear c52
        try clear hx52
        try clear hf52
        try clear hcz10_0
        try clear hcz10_1
        try clear hcz10_2
        try clear hfz10_0
        try clear hfz10_1
        try clear hfz10_2
        try clear hx136_0
        try clear hx136_1
        try clear hx137_0
        try clear hx137_1
        try clear hx138_0
        try clear hx138_1
        try clear hx33_0
        try clear hx33_1
        try clear hx35_1
        try clear hx44_0
        try clear hx44_1
        try clear hx52_0
        try clear hx52_1
        try clear p1
        try clear p13
        try clear p136
        try clear p137
        try clear p138
        try clear p2
        try clear p33
        try clear p44
        try clear p6
        try clear q047
        try clear q049
        try clear q1
        try clear q13
        try clear q136
        try clear q137
        try clear q138
        try clear q33
        try clear q44
        try clear q47
        try clear q49
        obtain ⟨kq, x10_28, HA, HJ28, HO_10, BK127, HB⟩ := hcut
        cases kq with
        | zero => exact absurd HA.out (by simp [impl_Lay.j4])
        | succ kj28 =>
         have H := HA.out
         clear HA
         simp only [impl_Lay.j4] at H
         replace H := Option.bind_eq_some_iff.mp H
         obtain ⟨t153, A540, H⟩ := H
         have A54 := Aside0.mk A540
         clear A540
         by_cases c55 : t153 = true
         · subst c55
           rw [if_pos rfl] at H
           simp only [Option.some.injEq, Prod.mk.injEq] at H
           obtain ⟨rfl, rfl⟩ := H
           have hcz56_0 : wc.cell? ⟨gb127, 0, none⟩ = some (.int .i64 a0_0) := (blk_cell BK127.out 0).trans rfl
           have hcz56_1 : wc.cell? ⟨gb127, 1, none⟩ = some (.int .i64 a0_1) := (blk_cell BK127.out 1).trans rfl
           have hcz56_2 : wc.cell? ⟨gb127, 2, none⟩ = some (.slice A0_2 l0_2.length c0_2) := (blk_cell BK127.out 2).trans rfl
           have hfz56_0 := blk_frozen BK127.out 0
           have hfz56_1 := blk_frozen BK127.out 1
           have hfz56_2 := blk_frozen BK127.out 2
           obtain ⟨Ao57, co57, eo57⟩ := Kd.R_slice HO_10.out
           subst eo57
           go_wp2_with (first | ((with_reducible refine gate_callee (f := 40) rfl ?_); refine goesL_ (some 82) rfl rfl Try.func40 (by kernel_rfl) rfl #[.agg #[.int .i64 a0_0, .int .i64 a0_1, .slice A0_2 l0_2.length c0_2], .slice Ao57 x10_28.length co57] rfl (by (try simp only [List.map_toArray, List.map_cons, List.map_nil]); first | done | rfl | (simp only [List.length_drop, List.length_take]; rfl)) ?_; (with_reducible refine (impl_AreDepots.calls kj28 a0_0 a0_1 _ _ l0_2 _ _ x10_28 true _ ?side1 ?side2 ?side3 ?side4 A54.out).mono ?_); (case side1 => exact (Kd.C_below HR0_2.out (below_up HB.out))); (case side2 => exact HC0_2.out); (case side3 => exact Kd.C_up ((Kd.R_reads' HO_10.out).2.2)); (case side4 => exact (Kd.R_reads' HO_10.out).2.1); rintro e w58 ⟨rfl, hb⟩; refine ⟨_, rfl, ?_⟩; have n0_ := Aside0.mk (Kd.R_below (Kd.R_up HO_10.out) hb); have n1_ := Aside0.mk (blk_below (g := gb127) (o := .cells #[.int .i64 a0_0, .int .i64 a0_1, .slice A0_2 l0_2.length c0_2] 43 (0, 0)) (blk_up BK127.out) hb); have n2_ := Aside0.mk (below_step (by repeat (first | (with_reducible first | exact HB.out | apply below_alloc | apply pw_below_drewN | apply below_drew1 | refine below_set ?_ GE127.out) | exact HB.out)) hb); clear HO_10; clear BK127; clear HB; have HO_10 := n0_; have BK127 := n1_; have HB := n2_; clear n0_ n1_ n2_; (try clear hb); (try clear hb2); (try clear hk); (try clear hi)))
           go_ret2
           exact ⟨_, by first | rfl | (simp [errW_none, errW_some] <;> rfl) | (simp [*, errW_none, errW_some] <;> rfl), by (with_reducible repeat (first | apply Kd.R_alloc | apply Kd.R_drewN | apply Kd.R_drew)); exact HO_10.out, by repeat (first | (with_reducible first | exact HB.out | apply below_alloc | apply pw_below_drewN | apply below_drew1 | refine below_set ?_ GE127.out) | exact HB.out)⟩
         replace c55 := Bool.eq_false_iff.mpr c55
         subst c55
         rw [if_neg (show ¬ (false = true) by decide)] at H
         replace H := Option.bind_eq_some_iff.mp H
         obtain ⟨t154, A590, H⟩ := H
         have A59 := Aside0.mk A590
         clear A590
         simp only [Option.some.injEq, Prod.mk.injEq] at H
         obtain ⟨rfl, rfl⟩ := H
         have hcz60_0 : wc.cell? ⟨gb127, 0, none⟩ = some (.int .i64 a0_0) := (blk_cell BK127.out 0).trans rfl
         have hcz60_1 : wc.cell? ⟨gb127, 1, none⟩ = some (.int .i64 a0_1) := (blk_cell BK127.out 1).trans rfl
         have hcz60_2 : wc.cell? ⟨gb127, 2, none⟩ = some (.slice A0_2 l0_2.length c0_2) := (blk_cell BK127.out 2).trans rfl
         have hfz60_0 := blk_frozen BK127.out 0
         have hfz60_1 := blk_frozen BK127.out 1
         have hfz60_2 := blk_frozen BK127.out 2
         obtain ⟨Ao61, co61, eo61⟩ := Kd.R_slice HO_10.out
         subst eo61
         go_wp2_with (first | ((with_reducible refine gate_callee (f := 40) rfl ?_); refine goesL_ (some 82) rfl rfl Try.func40 (by kernel_rfl) rfl #[.agg #[.int .i64 a0_0, .int .i64 a0_1, .slice A0_2 l0_2.length c0_2], .slice Ao61 x10_28.length co61] rfl (by (try simp only [List.map_toArray, List.map_cons, List.map_nil]); first | done | rfl | (simp only [List.length_drop, List.length_take]; rfl)) ?_; (with_reducible refine (impl_AreDepots.calls kj28 a0_0 a0_1 _ _ l0_2 _ _ x10_28 false _ ?side1 ?side2 ?side3 ?side4 A54.out).mono ?_); (case side1 => exact (Kd.C_below HR0_2.out (below_up HB.out))); (case side2 => exact HC0_2.out); (case side3 => exact Kd.C_up ((Kd.R_reads' HO_10.out).2.2)); (case side4 => exact (Kd.R_reads' HO_10.out).2.1); rintro e w62 ⟨rfl, hb⟩; refine ⟨_, rfl, ?_⟩; have n0_ := Aside0.mk (Kd.R_below (Kd.R_up HO_10.out) hb); have n1_ := Aside0.mk (blk_below (g := gb127) (o := .cells #[.int .i64 a0_0, .int .i64 a0_1, .slice A0_2 l0_2.length c0_2] 43 (0, 0)) (blk_up BK127.out) hb); have n2_ := Aside0.mk (below_step (by repeat (first | (with_reducible first | exact HB.out | apply below_alloc | apply pw_below_drewN | apply below_drew1 | refine below_set ?_ GE127.out) | exact HB.out)) hb); clear HO_10; clear BK127; clear HB; have HO_10 := n0_; have BK127 := n1_; have HB := n2_; clear n0_ n1_ n2_; (try clear hb); (try clear hb2); (try clear hk); (try clear hi)) | ((with_reducible refine gate_callee (f := 67) rfl ?_); refine goesL_ (some 85) rfl rfl Try.func67 (by kernel_rfl) rfl #[.slice A1 l1.length c1] rfl (by (try simp only [List.map_toArray, List.map_cons, List.map_nil]); first | done | rfl | (simp only [List.length_drop, List.length_take]; rfl)) ?_; (with_reducible refine (impl_copyDepots.calls _ _ l1 t154 _ ?side1 ?side2 A59.out).mono ?_); (case side1 => exact (Kd.C_below HR1.out (below_up HB.out))); (case side2 => exact HC1.out); rintro e w63 ⟨v155, rfl, ho0, hb⟩; refine ⟨_, rfl, ?_⟩; have n0_ := Aside0.mk (Kd.R_elder' (Kd.R_up HO_10.out) (Kd.R_base ho0) hb); have n1_ := Aside0.mk (Kd.R_lower (Kd.R_new' ho0 (Kd.R_lt (Kd.R_up HO_10.out))) (below_size (by repeat (first | (with_reducible first | exact HB.out | apply below_alloc | apply pw_below_drewN | apply below_drew1 | refine below_set ?_ GE127.out) | exact HB.out)))); have n2_ := Aside0.mk (blk_below (g := gb127) (o := .cells #[.int .i64 a0_0, .int .i64 a0_1, .slice A0_2 l0_2.length c0_2] 43 (0, 0)) (blk_up BK127.out) hb); have n3_ := Aside0.mk (below_step (by repeat (first | (with_reducible first | exact HB.out | apply below_alloc | apply pw_below_drewN | apply below_drew1 | refine below_set ?_ GE127.out) | exact HB.out)) hb); clear HO_10; clear BK127; clear HB; have HO_10 := n0_; have HO156 := n1_; have BK127 := n2_; have HB := n3_; clear n0_ n1_ n2_ n3_; (try clear hb); (try clear hb2); (try clear hk); (try clear hi); (try clear ho0)))
         go_ret2
         exact ⟨_, by first | rfl | (simp [errW_none, errW_some] <;> rfl) | (simp [*, errW_none, errW_some] <;> rfl), by (with_reducible repeat (first | apply Kd.R_alloc | apply Kd.R_drewN | apply Kd.R_drew)); exact Kd.R_mono HO156.out (fun _ hk => trivial), by repeat (first | (with_reducible first | exact HB.out | apply below_alloc | apply pw_below_drewN | apply below_drew1 | refine below_set ?_ GE127.out) | exact HB.out)⟩

end Go.Proofs.Ytdgpnmbmnnmdcaa.PFnDepots
