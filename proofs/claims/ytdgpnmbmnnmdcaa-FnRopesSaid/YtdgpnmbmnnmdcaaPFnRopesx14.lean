/- Contracts of Go functions: what print.sh prints, written shorter by low.py. -/
import Derived.Test.YtdgpnmbmnnmdcaaLow
import Derived.Test.YtdgpnmbmnnmdcaaUp
import Derived.Test.YtdgpnmbmnnmdcaaPFnRopesx0
import Derived.Test.YtdgpnmbmnnmdcaaPFnRopesx6
import Derived.Test.YtdgpnmbmnnmdcaaPFnRopesx13
namespace Go.Proofs.Ytdgpnmbmnnmdcaa.PFnRopes
open Go.RowKit Go.Proofs.YtdgpnmbmnnmdcaaW.PrintWords Go.Proofs.YtdgpnmbmnnmdcaaW.PrintLast Go.Proofs.YtdgpnmbmnnmdcaaW.PrintMore
attribute [local go_sem] max2_int min2_int max_two min_two max_three min_three max_four min_four   -- for this text's walks alone
set_option linter.unusedVariables false
set_option linter.unusedSimpArgs false

/-! ### impl_IsWay: function 59 -/
def impl_IsWay.l0 : Nat → List Int → List Int → Int → Int → Int → Int → List Int → Option (Bool)
 | 0, _, _, _, _, _, _, _ => none
 | k + 1, x1, x7, x8, x9, x565000, x565001, x565002 => if x9 < x8 then (if 0 ≤ x9 then (if x9 < (x7.length : Int) then ((impl_IsOpen.f k x565000 x565001 x565002 (rd x7 x9)).bind fun t566 => (if t566 = true then (if x9 > 0 then (if 0 ≤ (wrap64 (x9 - 1)) then (if (wrap64 (x9 - 1)) < (x1.length : Int) then ((impl_Near.f k x565000 x565001 x565002 (rd x1 (wrap64 (x9 - 1)))).bind fun t568 => ((impl_has.f k t568 (rd x7 x9)).bind fun t571 => (if t571 = true then (impl_IsWay.l0 k x1 x7 x8 (wrap64 (x9 + 1)) x565000 x565001 x565002) else (some false)))) else (none)) else (none)) else (impl_IsWay.l0 k x1 x7 x8 (wrap64 (x9 + 1)) x565000 x565001 x565002)) else (some false))) else (none)) else (none)) else (some (decide ((x1.length : Int) > 0)))
def impl_IsWay.f (k : Nat) (a0_0 : Int) (a0_1 : Int) (l0_2 : List Int) (l1 : List Int) : Option (Bool) := impl_IsWay.l0 k l1 l1 (l1.length : Int) 0 a0_0 a0_1 l0_2
theorem impl_IsWay.mono_l : ∀ k, (∀ y0 y1 y2 y3 y4 y5 y6, LeO (impl_IsWay.l0 k y0 y1 y2 y3 y4 y5 y6) (impl_IsWay.l0 (k + 1) y0 y1 y2 y3 y4 y5 y6))
 | 0 => fun _ _ _ _ _ _ _ r h => by simp [impl_IsWay.l0] at h
 | k + 1 => by
  have ih0 := impl_IsWay.mono_l k
  · intro y0 y1 y2 y3 y4 y5 y6
    unfold impl_IsWay.l0
    repeat' first
    | (with_reducible exact ih0 _ _ _ _ _ _ _)
    | (with_reducible exact impl_IsOpen.mono _ _ _ _ _)
    | (with_reducible exact impl_Near.mono _ _ _ _ _)
    | (with_reducible exact impl_has.mono _ _ _)
    | (with_reducible exact LeO.refl _)
    | (with_reducible exact LeO.none _)
    | (with_reducible refine LeO.ite ?_ ?_)
    | (with_reducible refine LeO.bind ?_ (fun _ => ?_))
    | exact ih0 _ _ _ _ _ _ _
    | exact impl_IsOpen.mono _ _ _ _ _
    | exact impl_Near.mono _ _ _ _ _
    | exact impl_has.mono _ _ _
    | exact LeO.none _
    | refine LeO.ite ?_ ?_
    | refine LeO.bind ?_ (fun _ => ?_)
theorem impl_IsWay.mono : ∀ a0 a1 a2 a3 k, LeO (impl_IsWay.f k a0 a1 a2 a3) (impl_IsWay.f (k + 1) a0 a1 a2 a3) := by
 intro a0 a1 a2 a3 k
 have ih0 := impl_IsWay.mono_l k
 unfold impl_IsWay.f
 repeat' first
  | (with_reducible exact ih0 _ _ _ _ _ _ _)
  | (with_reducible exact impl_IsOpen.mono _ _ _ _ _)
  | (with_reducible exact impl_Near.mono _ _ _ _ _)
  | (with_reducible exact impl_has.mono _ _ _)
  | (with_reducible exact LeO.refl _)
  | (with_reducible exact LeO.none _)
  | (with_reducible refine LeO.ite ?_ ?_)
  | (with_reducible refine LeO.bind ?_ (fun _ => ?_))
  | exact ih0 _ _ _ _ _ _ _
  | exact impl_IsOpen.mono _ _ _ _ _
  | exact impl_Near.mono _ _ _ _ _
  | exact impl_has.mono _ _ _
  | exact LeO.none _
  | refine LeO.ite ?_ ?_
  | refine LeO.bind ?_ (fun _ => ?_)
def impl_IsWay.T4 : Bool × List (List Nat × List Nat) := (true, [([], []), ([], []), ([0, 1], [0, 1]), ([2], [2]), ([3, 2], [3]), ([4], [4]), ([5, 4], [4, 5]), ([6, 4, 4], [4, 6]), ([7], [7]), ([7], [7]), ([7], [7]), ([10, 7], [7, 10]), ([9, 11, 7], [7, 9, 11]), ([12, 7], [7, 12]), ([8, 13, 7, 7], [7, 8, 13]), ([7], [7]), ([14, 15, 14, 7], [7, 14, 15]), ([16, 7], [7, 16]), ([7, 17, 4], [4, 7, 17]), ([4, 18], [4, 18])])
def impl_IsWay.B4 : List Nat := [0, 0, 3, 7, 15, 31, 63, 127, 255, 255, 255, 1279, 3839, 7935, 16383, 255, 65535, 131071, 262143, 524287]
theorem impl_IsWay.tab4 : rtab .any (opsOf Try.f59 4) = impl_IsWay.T4 := by kernel_rfl
theorem impl_IsWay.bits4 : waitsOk impl_IsWay.T4.2 impl_IsWay.B4 = true := by kernel_rfl
set_option maxHeartbeats 8000000 in
set_option maxRecDepth 100000 in
theorem impl_IsWay.calls (k : Nat) (a0_0 : Int) (a0_1 : Int) (A0_2 : Option Addr) (c0_2 : Nat) (l0_2 : List Int) (A1 : Option Addr) (c1 : Nat) (l1 : List Int) (r : Bool) (w : World) (hr0_2 : Kd.C (Kd.int .i64) w A0_2 l0_2.length l0_2) (hc0_2 : l0_2.length ≤ c0_2) (hr1 : Kd.C (Kd.int .i64) w A1 l1.length l1) (hc1 : l1.length ≤ c1) (h : impl_IsWay.f k a0_0 a0_1 l0_2 l1 = some r) :
 Calls Try.prog 59 #[.agg #[.int .i64 a0_0, .int .i64 a0_1, .slice A0_2 l0_2.length c0_2], .slice A1 l1.length c1] w fun e w' => e = .returned (.bool r) ∧ Below w.heap.size w w' := by
 have hu43 := Try.underlying43
 have HR0_2 := Aside0.mk hr0_2
 have HC0_2 := Aside0.mk hc0_2
 clear hr0_2 hc0_2
 have HR1 := Aside0.mk hr1
 have HC1 := Aside0.mk hc1
 clear hr1 hc1
 have HB := Aside0.mk (Below.refl w.heap.size w)
 have H : (impl_IsWay.l0 k l1 l1 (l1.length : Int) 0 a0_0 a0_1 l0_2) = some r := h
 clear h
 have H' := Aside0.mk H
 clear H
 go_enter Try.func59, Try.ntmps59
 go_wp2_with (first | ((with_reducible refine gate_dst (N := 2) rfl ?_); refine box_event ?hg (N := 2) ?hd (cs := #[.int .i64 a0_0, .int .i64 a0_1, .slice A0_2 l0_2.length c0_2]) (t := 43) ?hr ?_; (case hd => rfl); (case hg => rfl); (case hr => first | (go_simp; done) | (go_simp; rfl)); intro gb564 hg w3 hbox hb; have n0_ := Aside0.mk (below_step (below_up HB.out) hb); have n1_ := Aside0.mk (hbox); have n2_ := Aside0.mk (szle hg HB.out); have n3_ := Aside0.mk (szle hg HB.out); replace HB := n0_; have BK564 := n1_; have GW564 := n2_; have GE564 := n3_; clear n0_ n1_ n2_ n3_; clear hb hbox hg))
 go_loopg [9] k (fun kq v9 w' => ∃ (x9_1 : Int), v9 = .int .i64 x9_1 ∧ Aside0 (impl_IsWay.l0 kq l1 l1 (l1.length : Int) x9_1 a0_0 a0_1 l0_2 = some r) ∧ Aside0 (kq ≤ k) ∧ Aside0 (w'.heap[gb564]? = some (.cells #[.int .i64 a0_0, .int .i64 a0_1, (.slice A0_2 l0_2.length c0_2)] 43 (0, 0))) ∧ Aside0 (Below w.heap.size w w'))
 case atStart => exact ⟨(0), (by first | rfl | (simp; done) | (simp [*]; done)), H', ⟨Nat.le_refl _⟩, ⟨by (with_reducible repeat (first | refine blk_drewN ?_ _ | refine blk_drew ?_ | refine blk_alloc ?_ _)); exact BK564.out⟩, ⟨below_up HB.out⟩⟩
 case round =>
  clear H'
  try clear c1
  try clear p2
  obtain ⟨x9_1, rfl, HA, HK1, BK564, HB⟩ := hrel
  cases gk with
  | zero => exact absurd HA.out (by simp [impl_IsWay.l0])
  | succ k1 =>
   have H := HA.out
   clear HA
   simp only [impl_IsWay.l0] at H
   by_cases c4 : x9_1 < (l1.length : Int)
   rotate_left
   · rw [if_neg c4] at H
     have c4b0 : decide (x9_1 < (l1.length : Int)) = false := decide_eq_false c4
     clear c4
     obtain rfl := Option.some.inj H
     go_wp2
     go_ret
     exact ⟨by first | rfl | (simp [errW_none, errW_some] <;> rfl) | (simp [*, errW_none, errW_some] <;> rfl), below_up HB.out⟩
   rw [if_pos c4] at H
   have c4b0 : decide (x9_1 < (l1.length : Int)) = true := decide_eq_true c4
   clear c4
   by_cases c5 : 0 ≤ x9_1
   rotate_left
   · rw [if_neg c5] at H
     exact absurd H (by simp)
   rw [if_pos c5] at H
   have c5b0 : decide (0 ≤ x9_1) = true := decide_eq_true c5
   clear c5
   by_cases c6 : x9_1 < (l1.length : Int)
   rotate_left
   · rw [if_neg c6] at H
     exact absurd H (by simp)
   rw [if_pos c6] at H
   have c6b0 : decide (x9_1 < (l1.length : Int)) = true := decide_eq_true c6
   clear c6
   replace H := Option.bind_eq_some_iff.mp H
   obtain ⟨t566, A70, H⟩ := H
   have A7 := Aside0.mk A70
   clear A70
   by_cases c8 : t566 = true
   rotate_left
   · replace c8 := Bool.eq_false_iff.mpr c8
     subst c8
     rw [if_neg (show ¬ (false = true) by decide)] at H
     obtain rfl := Option.some.inj H
     have p565 : 0 ≤ (x9_1 : Int) := of_decide_eq_true (by first | (with_reducible assumption) | assumption)
     have q565 : x9_1 < (l1.length : Int) := of_decide_eq_true (by first | (with_reducible assumption) | assumption)
     obtain ⟨ad565, e565, hx565_0⟩ := Kd.at_int HR1.out x9_1 p565 q565
     cases e565
     replace hx565_0 := (cel HB.out hx565_0 :)
     replace p565 := eq_true p565
     replace q565 := eq_true q565
     try go_wp2
     have n0_ := Aside0.mk (blk_drew BK564.out)
     have n1_ := Aside0.mk (below_drew1 HB.out)
     clear BK564
     clear HB
     have BK564 := n0_
     have HB := n1_
     clear n0_ n1_
     refine start_ (n := 20) (S := fun w' => w'.cell? ⟨gb564, 0, none⟩ = some (.int .i64 a0_0) ∧ w'.cell? ⟨gb564, 1, none⟩ = some (.int .i64 a0_1) ∧ w'.cell? ⟨gb564, 2, none⟩ = some (.slice A0_2 l0_2.length c0_2)) (ds := []) (ar 20 0 []) (by kernel_rfl) rfl rfl ⟨(blk_cell BK564.out 0).trans rfl, (blk_cell BK564.out 1).trans rfl, (blk_cell BK564.out 2).trans rfl⟩ (fun hHeld => ?_); refine with_tabW impl_IsWay.tab4 impl_IsWay.bits4 (fun HT_ HW_ => ?_)
     generalize wr.drew = w26 at BK564 HB hHeld ⊢
     refine pu_ (i := 1) (N := 15) (v := ?_) (a' := ?_) (ar 20 2 [0]) rfl rfl (any_of HT_.out (by kernel_rfl)) ?_ ?_ ?_
     rotate_left
     · intro w'
       go_simp
       with_reducible rfl
     rotate_left
     · simp only [puts_]
       rfl
     refine tk_ (i := 0) (N := 14) (v := ?_) (a' := ?_) (ar 20 2 []) rfl rfl (take_ofW HT_.out HW_.out (by kernel_rfl)) ?_ hHeld ?_ ?_
     rotate_left
     · rintro w' ⟨s0, s1, s2⟩
       go_simp
       with_reducible rfl
     rotate_left
     · simp only [puts_]
       rfl
     refine one_ (i := 2) (N := some 16) (ar 20 3 []) rfl rfl (one_of HT_.out (by kernel_rfl)) (by decide) (fun K hK => ?_)
     refine goes_ Try.func72 (by kernel_rfl) rfl #[.agg #[.int .i64 a0_0, .int .i64 a0_1, .slice A0_2 l0_2.length c0_2], .int .i64 (rd l1 x9_1)] (by rfl) rfl rfl (by (try simp only [am_]); first | done | rfl) ?_
     with_reducible refine (impl_IsOpen.calls k1 a0_0 a0_1 _ _ l0_2 (rd l1 x9_1) false _ ?side1 ?side2 A7.out).mono ?_
     (case side1 => exact (Kd.C_below HR0_2.out (below_up HB.out)))
     (case side2 => exact HC0_2.out)
     rintro e w27 ⟨rfl, hb⟩
     refine ⟨_, rfl, ?_⟩
     have n0_ := Aside0.mk (blk_below (blk_up BK564.out) hb)
     have n1_ := Aside0.mk (below_step (below_up HB.out) hb)
     clear BK564
     clear HB
     have BK564 := n0_
     have HB := n1_
     clear n0_ n1_
     (try clear hb)
     (try clear hb2)
     (try clear hk)
     (try clear hi)
     refine hK.out _ _ ⟨(blk_cell BK564.out 0).trans rfl, (blk_cell BK564.out 1).trans rfl, (blk_cell BK564.out 2).trans rfl⟩ (fun hHeld => ?_)
     clear hK K
     refine norm_ (a' := ?_) ?_ ?_
     rotate_left
     · show Act.put _ (some 16) _ = _
       simp only [puts_]
       rfl
     refine pu_ (i := 3) (N := 17) (v := ?_) (a' := ?_) (ar 20 4 []) rfl rfl (any_of HT_.out (by kernel_rfl)) ?_ ?_ ?_
     rotate_left
     · intro w'
       go_simp
       with_reducible rfl
     rotate_left
     · simp only [puts_]
       rfl
     refine pu_ (i := 4) (N := 18) (v := ?_) (a' := ?_) (ar 20 5 []) rfl rfl (any_of HT_.out (by kernel_rfl)) ?_ ?_ ?_
     rotate_left
     · intro w'
       go_simp
       with_reducible rfl
     rotate_left
     · simp only [puts_]
       rfl
     refine pn_ (i := 5) (N := 19) (a' := ?_) (ar 20 6 []) rfl rfl (any_of HT_.out (by kernel_rfl)) ?_ ?_
     rotate_left
     · simp only [puts_]
       rfl
     refine pn_ (i := 6) (N := 20) (a' := ?_) (ar 20 7 []) rfl rfl (any_of HT_.out (by kernel_rfl)) ?_ ?_
     rotate_left
     · simp only [puts_]
       rfl
     refine pn_ (i := 7) (N := 21) (a' := ?_) (ar 20 8 []) rfl rfl (any_of HT_.out (by kernel_rfl)) ?_ ?_
     rotate_left
     · simp only [puts_]
       rfl
     refine pn_ (i := 8) (N := 22) (a' := ?_) (ar 20 9 []) rfl rfl (any_of HT_.out (by kernel_rfl)) ?_ ?_
     rotate_left
     · simp only [puts_]
       rfl
     refine pn_ (i := 9) (N := 23) (a' := ?_) (ar 20 10 []) rfl rfl (any_of HT_.out (by kernel_rfl)) ?_ ?_
     rotate_left
     · simp only [puts_]
       rfl
     refine pn_ (i := 10) (N := 24) (a' := ?_) (ar 20 11 []) rfl rfl (any_of HT_.out (by kernel_rfl)) ?_ ?_
     rotate_left
     · simp only [puts_]
       rfl
     refine pn_ (i := 11) (N := 25) (a' := ?_) (ar 20 12 []) rfl rfl (any_of HT_.out (by kernel_rfl)) ?_ ?_
     rotate_left
     · simp only [puts_]
       rfl
     refine pn_ (i := 12) (N := 26) (a' := ?_) (ar 20 13 []) rfl rfl (any_of HT_.out (by kernel_rfl)) ?_ ?_
     rotate_left
     · simp only [puts_]
       rfl
     refine pn_ (i := 13) (N := 27) (a' := ?_) (ar 20 14 []) rfl rfl (any_of HT_.out (by kernel_rfl)) ?_ ?_
     rotate_left
     · simp only [puts_]
       rfl
     refine pn_ (i := 14) (N := 28) (a' := ?_) (ar 20 15 []) rfl rfl (any_of HT_.out (by kernel_rfl)) ?_ ?_
     rotate_left
     · simp only [puts_]
       rfl
     refine pn_ (i := 15) (N := 29) (a' := ?_) (ar 20 16 []) rfl rfl (any_of HT_.out (by kernel_rfl)) ?_ ?_
     rotate_left
     · simp only [puts_]
       rfl
     refine pn_ (i := 16) (N := 30) (a' := ?_) (ar 20 17 []) rfl rfl (any_of HT_.out (by kernel_rfl)) ?_ ?_
     rotate_left
     · simp only [puts_]
       rfl
     refine pn_ (i := 17) (N := 31) (a' := ?_) (ar 20 18 []) rfl rfl (any_of HT_.out (by kernel_rfl)) ?_ ?_
     rotate_left
     · simp only [puts_]
       rfl
     refine pn_ (i := 18) (N := 32) (a' := ?_) (ar 20 19 []) rfl rfl (any_of HT_.out (by kernel_rfl)) ?_ ?_
     rotate_left
     · simp only [puts_]
       rfl
     refine pu_ (i := 19) (N := 33) (v := ?_) (a' := ?_) (ar 20 20 []) rfl rfl (any_of HT_.out (by kernel_rfl)) ?_ ?_ ?_
     rotate_left
     · intro w'
       go_simp
       with_reducible rfl
     rotate_left
     · simp only [puts_]
       rfl
     refine done_ (done_of HT_.out (by kernel_rfl)) ?_
     try go_wp2
     go_ret
     exact ⟨by first | rfl | (simp [errW_none, errW_some] <;> rfl) | (simp [*, errW_none, errW_some] <;> rfl), below_up HB.out⟩
   subst c8
   rw [if_pos rfl] at H
   by_cases c9 : x9_1 > 0
   rotate_left
   · rw [if_neg c9] at H
     have c9b0 : decide (0 < x9_1) = false := decide_eq_false c9
     clear c9
     have H' := Aside0.mk H
     clear H
     have p565 : 0 ≤ (x9_1 : Int) := of_decide_eq_true (by first | (with_reducible assumption) | assumption)
     have q565 : x9_1 < (l1.length : Int) := of_decide_eq_true (by first | (with_reducible assumption) | assumption)
     obtain ⟨ad565, e565, hx565_0⟩ := Kd.at_int HR1.out x9_1 p565 q565
     cases e565
     replace hx565_0 := (cel HB.out hx565_0 :)
     replace p565 := eq_true p565
     replace q565 := eq_true q565
     try go_wp2
     have n0_ := Aside0.mk (blk_drew BK564.out)
     have n1_ := Aside0.mk (below_drew1 HB.out)
     clear BK564
     clear HB
     have BK564 := n0_
     have HB := n1_
     clear n0_ n1_
     refine start_ (n := 20) (S := fun w' => w'.cell? ⟨gb564, 0, none⟩ = some (.int .i64 a0_0) ∧ w'.cell? ⟨gb564, 1, none⟩ = some (.int .i64 a0_1) ∧ w'.cell? ⟨gb564, 2, none⟩ = some (.slice A0_2 l0_2.length c0_2)) (ds := []) (ar 20 0 []) (by kernel_rfl) rfl rfl ⟨(blk_cell BK564.out 0).trans rfl, (blk_cell BK564.out 1).trans rfl, (blk_cell BK564.out 2).trans rfl⟩ (fun hHeld => ?_); refine with_tabW impl_IsWay.tab4 impl_IsWay.bits4 (fun HT_ HW_ => ?_)
     generalize wr.drew = w24 at BK564 HB hHeld ⊢
     refine pu_ (i := 1) (N := 15) (v := ?_) (a' := ?_) (ar 20 2 [0]) rfl rfl (any_of HT_.out (by kernel_rfl)) ?_ ?_ ?_
     rotate_left
     · intro w'
       go_simp
       with_reducible rfl
     rotate_left
     · simp only [puts_]
       rfl
     refine tk_ (i := 0) (N := 14) (v := ?_) (a' := ?_) (ar 20 2 []) rfl rfl (take_ofW HT_.out HW_.out (by kernel_rfl)) ?_ hHeld ?_ ?_
     rotate_left
     · rintro w' ⟨s0, s1, s2⟩
       go_simp
       with_reducible rfl
     rotate_left
     · simp only [puts_]
       rfl
     refine one_ (i := 2) (N := some 16) (ar 20 3 []) rfl rfl (one_of HT_.out (by kernel_rfl)) (by decide) (fun K hK => ?_)
     refine goes_ Try.func72 (by kernel_rfl) rfl #[.agg #[.int .i64 a0_0, .int .i64 a0_1, .slice A0_2 l0_2.length c0_2], .int .i64 (rd l1 x9_1)] (by rfl) rfl rfl (by (try simp only [am_]); first | done | rfl) ?_
     with_reducible refine (impl_IsOpen.calls k1 a0_0 a0_1 _ _ l0_2 (rd l1 x9_1) true _ ?side1 ?side2 A7.out).mono ?_
     (case side1 => exact (Kd.C_below HR0_2.out (below_up HB.out)))
     (case side2 => exact HC0_2.out)
     rintro e w25 ⟨rfl, hb⟩
     refine ⟨_, rfl, ?_⟩
     have n0_ := Aside0.mk (blk_below (blk_up BK564.out) hb)
     have n1_ := Aside0.mk (below_step (below_up HB.out) hb)
     clear BK564
     clear HB
     have BK564 := n0_
     have HB := n1_
     clear n0_ n1_
     (try clear hb)
     (try clear hb2)
     (try clear hk)
     (try clear hi)
     refine hK.out _ _ ⟨(blk_cell BK564.out 0).trans rfl, (blk_cell BK564.out 1).trans rfl, (blk_cell BK564.out 2).trans rfl⟩ (fun hHeld => ?_)
     clear hK K
     refine norm_ (a' := ?_) ?_ ?_
     rotate_left
     · show Act.put _ (some 16) _ = _
       simp only [puts_]
       rfl
     refine pu_ (i := 3) (N := 17) (v := ?_) (a' := ?_) (ar 20 4 []) rfl rfl (any_of HT_.out (by kernel_rfl)) ?_ ?_ ?_
     rotate_left
     · intro w'
       go_simp
       with_reducible rfl
     rotate_left
     · simp only [puts_]
       rfl
     refine pu_ (i := 4) (N := 18) (v := ?_) (a' := ?_) (ar 20 5 []) rfl rfl (any_of HT_.out (by kernel_rfl)) ?_ ?_ ?_
     rotate_left
     · intro w'
       go_simp
       with_reducible rfl
     rotate_left
     · simp only [puts_]
       rfl
     refine pu_ (i := 5) (N := 19) (v := ?_) (a' := ?_) (ar 20 6 []) rfl rfl (any_of HT_.out (by kernel_rfl)) ?_ ?_ ?_
     rotate_left
     · intro w'
       go_simp
       with_reducible rfl
     rotate_left
     · simp only [puts_]
       rfl
     refine pu_ (i := 6) (N := 20) (v := ?_) (a' := ?_) (ar 20 7 []) rfl rfl (any_of HT_.out (by kernel_rfl)) ?_ ?_ ?_
     rotate_left
     · intro w'
       go_simp
       with_reducible rfl
     rotate_left
     · simp only [puts_]
       rfl
     refine pu_ (i := 7) (N := 21) (v := ?_) (a' := ?_) (ar 20 8 []) rfl rfl (any_of HT_.out (by kernel_rfl)) ?_ ?_ ?_
     rotate_left
     · intro w'
       go_simp
       with_reducible rfl
     rotate_left
     · simp only [puts_]
       rfl
     refine pn_ (i := 8) (N := 22) (a' := ?_) (ar 20 9 []) rfl rfl (any_of HT_.out (by kernel_rfl)) ?_ ?_
     rotate_left
     · simp only [puts_]
       rfl
     refine pn_ (i := 9) (N := 23) (a' := ?_) (ar 20 10 []) rfl rfl (any_of HT_.out (by kernel_rfl)) ?_ ?_
     rotate_left
     · simp only [puts_]
       rfl
     refine pn_ (i := 10) (N := 24) (a' := ?_) (ar 20 11 []) rfl rfl (any_of HT_.out (by kernel_rfl)) ?_ ?_
     rotate_left
     · simp only [puts_]
       rfl
     refine pn_ (i := 11) (N := 25) (a' := ?_) (ar 20 12 []) rfl rfl (any_of HT_.out (by kernel_rfl)) ?_ ?_
     rotate_left
     · simp only [puts_]
       rfl
     refine pn_ (i := 12) (N := 26) (a' := ?_) (ar 20 13 []) rfl rfl (any_of HT_.out (by kernel_rfl)) ?_ ?_
     rotate_left
     · simp only [puts_]
       rfl
     refine pn_ (i := 13) (N := 27) (a' := ?_) (ar 20 14 []) rfl rfl (any_of HT_.out (by kernel_rfl)) ?_ ?_
     rotate_left
     · simp only [puts_]
       rfl
     refine pn_ (i := 14) (N := 28) (a' := ?_) (ar 20 15 []) rfl rfl (any_of HT_.out (by kernel_rfl)) ?_ ?_
     rotate_left
     · simp only [puts_]
       rfl
     refine pn_ (i := 15) (N := 29) (a' := ?_) (ar 20 16 []) rfl rfl (any_of HT_.out (by kernel_rfl)) ?_ ?_
     rotate_left
     · simp only [puts_]
       rfl
     refine pn_ (i := 16) (N := 30) (a' := ?_) (ar 20 17 []) rfl rfl (any_of HT_.out (by kernel_rfl)) ?_ ?_
     rotate_left
     · simp only [puts_]
       rfl
     refine pn_ (i := 17) (N := 31) (a' := ?_) (ar 20 18 []) rfl rfl (any_of HT_.out (by kernel_rfl)) ?_ ?_
     rotate_left
     · simp only [puts_]
       rfl
     refine pu_ (i := 18) (N := 32) (v := ?_) (a' := ?_) (ar 20 19 []) rfl rfl (any_of HT_.out (by kernel_rfl)) ?_ ?_ ?_
     rotate_left
     · intro w'
       go_simp
       with_reducible rfl
     rotate_left
     · simp only [puts_]
       rfl
     refine pu_ (i := 19) (N := 33) (v := ?_) (a' := ?_) (ar 20 20 []) rfl rfl (any_of HT_.out (by kernel_rfl)) ?_ ?_ ?_
     rotate_left
     · intro w'
       go_simp
       with_reducible rfl
     rotate_left
     · simp only [puts_]
       rfl
     refine done_ (done_of HT_.out (by kernel_rfl)) ?_
     try go_wp2
     go_roundg k1
     case measure => have := HK1.out; omega
     case rel => exact ⟨(wrap64 (x9_1 + 1)), (by first | rfl | (simp; done) | (simp [*]; done)), H', ⟨by have := HK1.out; omega⟩, ⟨by (with_reducible repeat (first | refine blk_drewN ?_ _ | refine blk_drew ?_ | refine blk_alloc ?_ _)); exact BK564.out⟩, ⟨below_up HB.out⟩⟩
   rw [if_pos c9] at H
   have c9b0 : decide (0 < x9_1) = true := decide_eq_true c9
   clear c9
   obtain ⟨ji10, hji10⟩ : ∃ j_ : Int, (wrap64 (x9_1 - 1)) = j_ := ⟨_, rfl⟩
   replace H : (if 0 ≤ (ji10) then (if (ji10) < (l1.length : Int) then ((impl_Near.f k1 a0_0 a0_1 l0_2 (rd l1 (ji10))).bind fun t568 => ((impl_has.f k1 t568 (rd l1 x9_1)).bind fun t571 => (if t571 = true then (impl_IsWay.l0 k1 l1 l1 (l1.length : Int) (wrap64 (x9_1 + 1)) a0_0 a0_1 l0_2) else (some false)))) else (none)) else (none)) = some r := by first | (rw [hji10] at H; exact H) | (simp only [hji10] at H ⊢; exact H)
   (try rw [hji10] at A7)
   have hji10w : (IntKind.i64.wrap (x9_1 - 1)) = ji10 := (i64_w _).trans hji10
   by_cases c11 : 0 ≤ (ji10)
   rotate_left
   · rw [if_neg c11] at H
     exact absurd H (by simp)
   rw [if_pos c11] at H
   have c11b0 : decide (0 ≤ (ji10)) = true := decide_eq_true c11
   clear c11
   by_cases c12 : (ji10) < (l1.length : Int)
   rotate_left
   · rw [if_neg c12] at H
     exact absurd H (by simp)
   rw [if_pos c12] at H
   have c12b0 : decide ((ji10) < (l1.length : Int)) = true := decide_eq_true c12
   clear c12
   replace H := Option.bind_eq_some_iff.mp H
   obtain ⟨t568, A130, H⟩ := H
   have A13 := Aside0.mk A130
   clear A130
   replace H := Option.bind_eq_some_iff.mp H
   obtain ⟨t571, A140, H⟩ := H
   have A14 := Aside0.mk A140
   clear A140
   by_cases c15 : t571 = true
   rotate_left
   · replace c15 := Bool.eq_false_iff.mpr c15
     subst c15
     rw [if_neg (show ¬ (false = true) by decide)] at H
     obtain rfl := Option.some.inj H
     have p565 : 0 ≤ (x9_1 : Int) := of_decide_eq_true (by first | (with_reducible assumption) | assumption)
     have q565 : x9_1 < (l1.length : Int) := of_decide_eq_true (by first | (with_reducible assumption) | assumption)
     obtain ⟨ad565, e565, hx565_0⟩ := Kd.at_int HR1.out x9_1 p565 q565
     cases e565
     replace hx565_0 := (cel HB.out hx565_0 :)
     replace p565 := eq_true p565
     replace q565 := eq_true q565
     try go_wp2
     have n0_ := Aside0.mk (blk_drew BK564.out)
     have n1_ := Aside0.mk (below_drew1 HB.out)
     clear BK564
     clear HB
     have BK564 := n0_
     have HB := n1_
     clear n0_ n1_
     have p567 : 0 ≤ ((ji10) : Int) := of_decide_eq_true (by first | (with_reducible assumption) | assumption)
     have q567 : (ji10) < (l1.length : Int) := of_decide_eq_true (by first | (with_reducible assumption) | assumption)
     obtain ⟨ad567, e567, hx567_0⟩ := Kd.at_int HR1.out (ji10) p567 q567
     have hw567_0 := hx567_0
     obtain rfl : ad565 = ad567 := (by injection e567)
     replace hx567_0 := (cel HB.out hx567_0 :)
     replace p567 := eq_true p567
     replace q567 := eq_true q567
     refine start_ (n := 20) (S := fun w' => w'.cell? ⟨gb564, 0, none⟩ = some (.int .i64 a0_0) ∧ w'.cell? ⟨gb564, 1, none⟩ = some (.int .i64 a0_1) ∧ w'.cell? ⟨gb564, 2, none⟩ = some (.slice A0_2 l0_2.length c0_2) ∧ w'.cell? (ad565.add ((ji10)).toNat) = some (.int .i64 (rd l1 (ji10)))) (ds := []) (ar 20 0 []) (by kernel_rfl) rfl rfl ⟨(blk_cell BK564.out 0).trans rfl, (blk_cell BK564.out 1).trans rfl, (blk_cell BK564.out 2).trans rfl, ((cel HB.out hw567_0 :))⟩ (fun hHeld => ?_); refine with_tabW impl_IsWay.tab4 impl_IsWay.bits4 (fun HT_ HW_ => ?_)
     generalize wr.drew = w20 at BK564 HB hx567_0 hHeld ⊢
     refine pu_ (i := 1) (N := 15) (v := ?_) (a' := ?_) (ar 20 2 [0]) rfl rfl (any_of HT_.out (by kernel_rfl)) ?_ ?_ ?_
     rotate_left
     · intro w'
       go_simp
       with_reducible rfl
     rotate_left
     · simp only [puts_]
       rfl
     refine tk_ (i := 0) (N := 14) (v := ?_) (a' := ?_) (ar 20 2 []) rfl rfl (take_ofW HT_.out HW_.out (by kernel_rfl)) ?_ hHeld ?_ ?_
     rotate_left
     · rintro w' ⟨s0, s1, s2, s3⟩
       go_simp
       with_reducible rfl
     rotate_left
     · simp only [puts_]
       rfl
     refine one_ (i := 2) (N := some 16) (ar 20 3 []) rfl rfl (one_of HT_.out (by kernel_rfl)) (by decide) (fun K hK => ?_)
     refine goes_ Try.func72 (by kernel_rfl) rfl #[.agg #[.int .i64 a0_0, .int .i64 a0_1, .slice A0_2 l0_2.length c0_2], .int .i64 (rd l1 x9_1)] (by rfl) rfl rfl (by (try simp only [am_]); first | done | rfl) ?_
     with_reducible refine (impl_IsOpen.calls k1 a0_0 a0_1 _ _ l0_2 (rd l1 x9_1) true _ ?side1 ?side2 A7.out).mono ?_
     (case side1 => exact (Kd.C_below HR0_2.out (below_up HB.out)))
     (case side2 => exact HC0_2.out)
     rintro e w21 ⟨rfl, hb⟩
     refine ⟨_, rfl, ?_⟩
     have n0_ := Aside0.mk (blk_below (blk_up BK564.out) hb)
     have n1_ := Aside0.mk (below_step (below_up HB.out) hb)
     clear BK564
     clear HB
     have BK564 := n0_
     have HB := n1_
     clear n0_ n1_
     (try clear hb)
     (try clear hb2)
     (try clear hk)
     (try clear hi)
     refine hK.out _ _ ⟨(blk_cell BK564.out 0).trans rfl, (blk_cell BK564.out 1).trans rfl, (blk_cell BK564.out 2).trans rfl, ((cel HB.out hw567_0 :))⟩ (fun hHeld => ?_)
     clear hK K
     refine norm_ (a' := ?_) ?_ ?_
     rotate_left
     · show Act.put _ (some 16) _ = _
       simp only [puts_]
       rfl
     refine pu_ (i := 3) (N := 17) (v := ?_) (a' := ?_) (ar 20 4 []) rfl rfl (any_of HT_.out (by kernel_rfl)) ?_ ?_ ?_
     rotate_left
     · intro w'
       go_simp
       with_reducible rfl
     rotate_left
     · simp only [puts_]
       rfl
     refine pu_ (i := 4) (N := 18) (v := ?_) (a' := ?_) (ar 20 5 []) rfl rfl (any_of HT_.out (by kernel_rfl)) ?_ ?_ ?_
     rotate_left
     · intro w'
       go_simp
       with_reducible rfl
     rotate_left
     · simp only [puts_]
       rfl
     refine pu_ (i := 5) (N := 19) (v := ?_) (a' := ?_) (ar 20 6 []) rfl rfl (any_of HT_.out (by kernel_rfl)) ?_ ?_ ?_
     rotate_left
     · intro w'
       go_simp
       with_reducible rfl
     rotate_left
     · simp only [puts_]
       rfl
     refine pu_ (i := 6) (N := 20) (v := ?_) (a' := ?_) (ar 20 7 []) rfl rfl (any_of HT_.out (by kernel_rfl)) ?_ ?_ ?_
     rotate_left
     · intro w'
       go_simp
       with_reducible rfl
     rotate_left
     · simp only [puts_]
       rfl
     refine pu_ (i := 7) (N := 21) (v := ?_) (a' := ?_) (ar 20 8 []) rfl rfl (any_of HT_.out (by kernel_rfl)) ?_ ?_ ?_
     rotate_left
     · intro w'
       go_simp
       with_reducible rfl
     rotate_left
     · simp only [puts_]
       rfl
     refine pu_ (i := 9) (N := 23) (v := ?_) (a' := ?_) (ar 20 10 [8]) rfl rfl (any_of HT_.out (by kernel_rfl)) ?_ ?_ ?_
     rotate_left
     · intro w'
       go_simp
       with_reducible rfl
     rotate_left
     · simp only [puts_]
       rfl
     refine pu_ (i := 10) (N := 24) (v := ?_) (a' := ?_) (ar 20 11 [8]) rfl rfl (any_of HT_.out (by kernel_rfl)) ?_ ?_ ?_
     rotate_left
     · intro w'
       go_simp
       with_reducible rfl
     rotate_left
     · simp only [puts_]
       rfl
     refine pu_ (i := 11) (N := 25) (v := ?_) (a' := ?_) (ar 20 12 [8]) rfl rfl (any_of HT_.out (by kernel_rfl)) ?_ ?_ ?_
     rotate_left
     · intro w'
       go_simp
       with_reducible rfl
     rotate_left
     · simp only [puts_]
       rfl
     refine pu_ (i := 12) (N := 26) (v := ?_) (a' := ?_) (ar 20 13 [8]) rfl rfl (any_of HT_.out (by kernel_rfl)) ?_ ?_ ?_
     rotate_left
     · intro w'
       go_simp
       with_reducible rfl
     rotate_left
     · simp only [puts_]
       rfl
     refine pu_ (i := 15) (N := 29) (v := ?_) (a' := ?_) (ar 20 16 [8, 13, 14]) rfl rfl (any_of HT_.out (by kernel_rfl)) ?_ ?_ ?_
     rotate_left
     · intro w'
       go_simp
       with_reducible rfl
     rotate_left
     · simp only [puts_]
       rfl
     refine tk_ (i := 8) (N := 22) (v := ?_) (a' := ?_) (ar 20 16 [13, 14]) rfl rfl (take_ofW HT_.out HW_.out (by kernel_rfl)) ?_ hHeld ?_ ?_
     rotate_left
     · rintro w' ⟨s0, s1, s2, s3⟩
       go_simp
       with_reducible rfl
     rotate_left
     · simp only [puts_]
       rfl
     refine tk_ (i := 13) (N := 27) (v := ?_) (a' := ?_) (ar 20 16 [14]) rfl rfl (take_ofW HT_.out HW_.out (by kernel_rfl)) ?_ hHeld ?_ ?_
     rotate_left
     · rintro w' ⟨s0, s1, s2, s3⟩
       go_simp
       with_reducible rfl
     rotate_left
     · simp only [puts_]
       rfl
     refine one_ (i := 14) (N := some 28) (ar 20 16 []) rfl rfl (one_of HT_.out (by kernel_rfl)) (by decide) (fun K hK => ?_)
     refine goes_ Try.func78 (by kernel_rfl) rfl #[.agg #[.int .i64 a0_0, .int .i64 a0_1, .slice A0_2 l0_2.length c0_2], .int .i64 (rd l1 (ji10))] (by rfl) rfl rfl (by (try simp only [List.map_toArray, List.map_cons, List.map_nil]); first | done | (simp only [hji10]; rfl) | rfl | (simp only [List.length_drop, List.length_take]; rfl)) ?_
     with_reducible refine (impl_Near.calls k1 a0_0 a0_1 _ _ l0_2 (rd l1 (ji10)) t568 _ ?side1 ?side2 A13.out).mono ?_
     (case side1 => exact (Kd.C_below HR0_2.out (below_up HB.out)))
     (case side2 => exact HC0_2.out)
     rintro e w22 ⟨v569, rfl, ho0, hb⟩
     refine ⟨_, rfl, ?_⟩
     have n0_ := Aside0.mk (Kd.R_lower ho0 (below_size (below_up HB.out)))
     have n1_ := Aside0.mk (blk_below (blk_up BK564.out) hb)
     have n2_ := Aside0.mk (below_step (below_up HB.out) hb)
     clear BK564
     clear HB
     have HO570 := n0_
     have BK564 := n1_
     have HB := n2_
     clear n0_ n1_ n2_
     (try clear hb)
     (try clear hb2)
     (try clear hk)
     (try clear hi)
     (try clear ho0)
     obtain ⟨Ao23, co23, eo23⟩ := Kd.R_slice HO570.out
     (first | subst eo23 | (injection eo23 with f1_ f2_ f3_; have f4_ := f1_.symm; have f5_ := f3_.symm; clear f1_ f2_ f3_; subst f4_; subst f5_))
     refine hK.out _ _ ⟨(blk_cell BK564.out 0).trans rfl, (blk_cell BK564.out 1).trans rfl, (blk_cell BK564.out 2).trans rfl, ((cel HB.out hw567_0 :))⟩ (fun hHeld => ?_)
     clear hK K
     refine norm_ (a' := ?_) ?_ ?_
     rotate_left
     · show Act.put _ (some 28) _ = _
       simp only [puts_]
       rfl
     refine one_ (i := 16) (N := some 30) (ar 20 17 []) rfl rfl (one_of HT_.out (by kernel_rfl)) (by decide) (fun K hK => ?_)
     refine goes_ Try.func57 (by kernel_rfl) rfl #[.slice Ao23 t568.length co23, .int .i64 (rd l1 x9_1)] (by rfl) rfl rfl (by (try simp only [am_]); first | done | rfl) ?_
     with_reducible refine (impl_has.calls k1 _ _ t568 (rd l1 x9_1) false _ ?side1 ?side2 A14.out).mono ?_
     (case side1 => exact Kd.C_up ((Kd.R_reads' HO570.out).2.2))
     (case side2 => exact (Kd.R_reads' HO570.out).2.1)
     rintro e w' ⟨rfl, ⟨nd, rfl⟩⟩
     refine ⟨_, rfl, ?_⟩
     refine hK.out _ _ ⟨(blk_cell BK564.out 0).trans rfl, (blk_cell BK564.out 1).trans rfl, (blk_cell BK564.out 2).trans rfl, ((cel HB.out hw567_0 :))⟩ (fun hHeld => ?_)
     clear hK K
     refine norm_ (a' := ?_) ?_ ?_
     rotate_left
     · show Act.put _ (some 30) _ = _
       simp only [puts_]
       rfl
     refine pu_ (i := 17) (N := 31) (v := ?_) (a' := ?_) (ar 20 18 []) rfl rfl (any_of HT_.out (by kernel_rfl)) ?_ ?_ ?_
     rotate_left
     · intro w'
       go_simp
       with_reducible rfl
     rotate_left
     · simp only [puts_]
       rfl
     refine pu_ (i := 18) (N := 32) (v := ?_) (a' := ?_) (ar 20 19 []) rfl rfl (any_of HT_.out (by kernel_rfl)) ?_ ?_ ?_
     rotate_left
     · intro w'
       go_simp
       with_reducible rfl
     rotate_left
     · simp only [puts_]
       rfl
     refine pu_ (i := 19) (N := 33) (v := ?_) (a' := ?_) (ar 20 20 []) rfl rfl (any_of HT_.out (by kernel_rfl)) ?_ ?_ ?_
     rotate_left
     · intro w'
       go_simp
       with_reducible rfl
     rotate_left
     · simp only [puts_]
       rfl
     refine done_ (done_of HT_.out (by kernel_rfl)) ?_
     try go_wp2
     go_ret
     exact ⟨by first | rfl | (simp [errW_none, errW_some] <;> rfl) | (simp only [← hji10]; first | rfl | (simp [errW_none, errW_some] <;> rfl)) | (simp [*, errW_none, errW_some] <;> rfl), below_up HB.out⟩
   subst c15
   rw [if_pos rfl] at H
   have H' := Aside0.mk H
   clear H
   have p565 : 0 ≤ (x9_1 : Int) := of_decide_eq_true (by first | (with_reducible assumption) | assumption)
   have q565 : x9_1 < (l1.length : Int) := of_decide_eq_true (by first | (with_reducible assumption) | assumption)
   obtain ⟨ad565, e565, hx565_0⟩ := Kd.at_int HR1.out x9_1 p565 q565
   cases e565
   replace hx565_0 := (cel HB.out hx565_0 :)
   replace p565 := eq_true p565
   replace q565 := eq_true q565
   try go_wp2
   have n0_ := Aside0.mk (blk_drew BK564.out)
   have n1_ := Aside0.mk (below_drew1 HB.out)
   clear BK564
   clear HB
   have BK564 := n0_
   have HB := n1_
   clear n0_ n1_
   have p567 : 0 ≤ ((ji10) : Int) := of_decide_eq_true (by first | (with_reducible assumption) | assumption)
   have q567 : (ji10) < (l1.length : Int) := of_decide_eq_true (by first | (with_reducible assumption) | assumption)
   obtain ⟨ad567, e567, hx567_0⟩ := Kd.at_int HR1.out (ji10) p567 q567
   have hw567_0 := hx567_0
   obtain rfl : ad565 = ad567 := (by injection e567)
   replace hx567_0 := (cel HB.out hx567_0 :)
   replace p567 := eq_true p567
   replace q567 := eq_true q567
   refine start_ (n := 20) (S := fun w' => w'.cell? ⟨gb564, 0, none⟩ = some (.int .i64 a0_0) ∧ w'.cell? ⟨gb564, 1, none⟩ = some (.int .i64 a0_1) ∧ w'.cell? ⟨gb564, 2, none⟩ = some (.slice A0_2 l0_2.length c0_2) ∧ w'.cell? (ad565.add ((ji10)).toNat) = some (.int .i64 (rd l1 (ji10)))) (ds := []) (ar 20 0 []) (by kernel_rfl) rfl rfl ⟨(blk_cell BK564.out 0).trans rfl, (blk_cell BK564.out 1).trans rfl, (blk_cell BK564.out 2).trans rfl, ((cel HB.out hw567_0 :))⟩ (fun hHeld => ?_); refine with_tabW impl_IsWay.tab4 impl_IsWay.bits4 (fun HT_ HW_ => ?_)
   generalize wr.drew = w16 at BK564 HB hx567_0 hHeld ⊢
   refine pu_ (i := 1) (N := 15) (v := ?_) (a' := ?_) (ar 20 2 [0]) rfl rfl (any_of HT_.out (by kernel_rfl)) ?_ ?_ ?_
   rotate_left
   · intro w'
     go_simp
     with_reducible rfl
   rotate_left
   · simp only [puts_]
     rfl
   refine tk_ (i := 0) (N := 14) (v := ?_) (a' := ?_) (ar 20 2 []) rfl rfl (take_ofW HT_.out HW_.out (by kernel_rfl)) ?_ hHeld ?_ ?_
   rotate_left
   · rintro w' ⟨s0, s1, s2, s3⟩
     go_simp
     with_reducible rfl
   rotate_left
   · simp only [puts_]
     rfl
   refine one_ (i := 2) (N := some 16) (ar 20 3 []) rfl rfl (one_of HT_.out (by kernel_rfl)) (by decide) (fun K hK => ?_)
   refine goes_ Try.func72 (by kernel_rfl) rfl #[.agg #[.int .i64 a0_0, .int .i64 a0_1, .slice A0_2 l0_2.length c0_2], .int .i64 (rd l1 x9_1)] (by rfl) rfl rfl (by (try simp only [am_]); first | done | rfl) ?_
   with_reducible refine (impl_IsOpen.calls k1 a0_0 a0_1 _ _ l0_2 (rd l1 x9_1) true _ ?side1 ?side2 A7.out).mono ?_
   (case side1 => exact (Kd.C_below HR0_2.out (below_up HB.out)))
   (case side2 => exact HC0_2.out)
   rintro e w17 ⟨rfl, hb⟩
   refine ⟨_, rfl, ?_⟩
   have n0_ := Aside0.mk (blk_below (blk_up BK564.out) hb)
   have n1_ := Aside0.mk (below_step (below_up HB.out) hb)
   clear BK564
   clear HB
   have BK564 := n0_
   have HB := n1_
   clear n0_ n1_
   (try clear hb)
   (try clear hb2)
   (try clear hk)
   (try clear hi)
   refine hK.out _ _ ⟨(blk_cell BK564.out 0).trans rfl, (blk_cell BK564.out 1).trans rfl, (blk_cell BK564.out 2).trans rfl, ((cel HB.out hw567_0 :))⟩ (fun hHeld => ?_)
   clear hK K
   refine norm_ (a' := ?_) ?_ ?_
   rotate_left
   · show Act.put _ (some 16) _ = _
     simp only [puts_]
     rfl
   refine pu_ (i := 3) (N := 17) (v := ?_) (a' := ?_) (ar 20 4 []) rfl rfl (any_of HT_.out (by kernel_rfl)) ?_ ?_ ?_
   rotate_left
   · intro w'
     go_simp
     with_reducible rfl
   rotate_left
   · simp only [puts_]
     rfl
   refine pu_ (i := 4) (N := 18) (v := ?_) (a' := ?_) (ar 20 5 []) rfl rfl (any_of HT_.out (by kernel_rfl)) ?_ ?_ ?_
   rotate_left
   · intro w'
     go_simp
     with_reducible rfl
   rotate_left
   · simp only [puts_]
     rfl
   refine pu_ (i := 5) (N := 19) (v := ?_) (a' := ?_) (ar 20 6 []) rfl rfl (any_of HT_.out (by kernel_rfl)) ?_ ?_ ?_
   rotate_left
   · intro w'
     go_simp
     with_reducible rfl
   rotate_left
   · simp only [puts_]
     rfl
   refine pu_ (i := 6) (N := 20) (v := ?_) (a' := ?_) (ar 20 7 []) rfl rfl (any_of HT_.out (by kernel_rfl)) ?_ ?_ ?_
   rotate_left
   · intro w'
     go_simp
     with_reducible rfl
   rotate_left
   · simp only [puts_]
     rfl
   refine pu_ (i := 7) (N := 21) (v := ?_) (a' := ?_) (ar 20 8 []) rfl rfl (any_of HT_.out (by kernel_rfl)) ?_ ?_ ?_
   rotate_left
   · intro w'
     go_simp
     with_reducible rfl
   rotate_left
   · simp only [puts_]
     rfl
   refine pu_ (i := 9) (N := 23) (v := ?_) (a' := ?_) (ar 20 10 [8]) rfl rfl (any_of HT_.out (by kernel_rfl)) ?_ ?_ ?_
   rotate_left
   · intro w'
     go_simp
     with_reducible rfl
   rotate_left
   · simp only [puts_]
     rfl
   refine pu_ (i := 10) (N := 24) (v := ?_) (a' := ?_) (ar 20 11 [8]) rfl rfl (any_of HT_.out (by kernel_rfl)) ?_ ?_ ?_
   rotate_left
   · intro w'
     go_simp
     with_reducible rfl
   rotate_left
   · simp only [puts_]
     rfl
   refine pu_ (i := 11) (N := 25) (v := ?_) (a' := ?_) (ar 20 12 [8]) rfl rfl (any_of HT_.out (by kernel_rfl)) ?_ ?_ ?_
   rotate_left
   · intro w'
     go_simp
     with_reducible rfl
   rotate_left
   · simp only [puts_]
     rfl
   refine pu_ (i := 12) (N := 26) (v := ?_) (a' := ?_) (ar 20 13 [8]) rfl rfl (any_of HT_.out (by kernel_rfl)) ?_ ?_ ?_
   rotate_left
   · intro w'
     go_simp
     with_reducible rfl
   rotate_left
   · simp only [puts_]
     rfl
   refine pu_ (i := 15) (N := 29) (v := ?_) (a' := ?_) (ar 20 16 [8, 13, 14]) rfl rfl (any_of HT_.out (by kernel_rfl)) ?_ ?_ ?_
   rotate_left
   · intro w'
     go_simp
     with_reducible rfl
   rotate_left
   · simp only [puts_]
     rfl
   refine tk_ (i := 8) (N := 22) (v := ?_) (a' := ?_) (ar 20 16 [13, 14]) rfl rfl (take_ofW HT_.out HW_.out (by kernel_rfl)) ?_ hHeld ?_ ?_
   rotate_left
   · rintro w' ⟨s0, s1, s2, s3⟩
     go_simp
     with_reducible rfl
   rotate_left
   · simp only [puts_]
     rfl
   refine tk_ (i := 13) (N := 27) (v := ?_) (a' := ?_) (ar 20 16 [14]) rfl rfl (take_ofW HT_.out HW_.out (by kernel_rfl)) ?_ hHeld ?_ ?_
   rotate_left
   · rintro w' ⟨s0, s1, s2, s3⟩
     go_simp
     with_reducible rfl
   rotate_left
   · simp only [puts_]
     rfl
   refine one_ (i := 14) (N := some 28) (ar 20 16 []) rfl rfl (one_of HT_.out (by kernel_rfl)) (by decide) (fun K hK => ?_)
   refine goes_ Try.func78 (by kernel_rfl) rfl #[.agg #[.int .i64 a0_0, .int .i64 a0_1, .slice A0_2 l0_2.length c0_2], .int .i64 (rd l1 (ji10))] (by rfl) rfl rfl (by (try simp only [List.map_toArray, List.map_cons, List.map_nil]); first | done | (simp only [hji10]; rfl) | rfl | (simp only [List.length_drop, List.length_take]; rfl)) ?_
   with_reducible refine (impl_Near.calls k1 a0_0 a0_1 _ _ l0_2 (rd l1 (ji10)) t568 _ ?side1 ?side2 A13.out).mono ?_
   (case side1 => exact (Kd.C_below HR0_2.out (below_up HB.out)))
   (case side2 => exact HC0_2.out)
   rintro e w18 ⟨v569, rfl, ho0, hb⟩
   refine ⟨_, rfl, ?_⟩
   have n0_ := Aside0.mk (Kd.R_lower ho0 (below_size (below_up HB.out)))
   have n1_ := Aside0.mk (blk_below (blk_up BK564.out) hb)
   have n2_ := Aside0.mk (below_step (below_up HB.out) hb)
   clear BK564
   clear HB
   have HO570 := n0_
   have BK564 := n1_
   have HB := n2_
   clear n0_ n1_ n2_
   (try clear hb)
   (try clear hb2)
   (try clear hk)
   (try clear hi)
   (try clear ho0)
   obtain ⟨Ao19, co19, eo19⟩ := Kd.R_slice HO570.out
   (first | subst eo19 | (injection eo19 with f1_ f2_ f3_; have f4_ := f1_.symm; have f5_ := f3_.symm; clear f1_ f2_ f3_; subst f4_; subst f5_))
   refine hK.out _ _ ⟨(blk_cell BK564.out 0).trans rfl, (blk_cell BK564.out 1).trans rfl, (blk_cell BK564.out 2).trans rfl, ((cel HB.out hw567_0 :))⟩ (fun hHeld => ?_)
   clear hK K
   refine norm_ (a' := ?_) ?_ ?_
   rotate_left
   · show Act.put _ (some 28) _ = _
     simp only [puts_]
     rfl
   refine one_ (i := 16) (N := some 30) (ar 20 17 []) rfl rfl (one_of HT_.out (by kernel_rfl)) (by decide) (fun K hK => ?_)
   refine goes_ Try.func57 (by kernel_rfl) rfl #[.slice Ao19 t568.length co19, .int .i64 (rd l1 x9_1)] (by rfl) rfl rfl (by (try simp only [am_]); first | done | rfl) ?_
   with_reducible refine (impl_has.calls k1 _ _ t568 (rd l1 x9_1) true _ ?side1 ?side2 A14.out).mono ?_
   (case side1 => exact Kd.C_up ((Kd.R_reads' HO570.out).2.2))
   (case side2 => exact (Kd.R_reads' HO570.out).2.1)
   rintro e w' ⟨rfl, ⟨nd, rfl⟩⟩
   refine ⟨_, rfl, ?_⟩
   refine hK.out _ _ ⟨(blk_cell BK564.out 0).trans rfl, (blk_cell BK564.out 1).trans rfl, (blk_cell BK564.out 2).trans rfl, ((cel HB.out hw567_0 :))⟩ (fun hHeld => ?_)
   clear hK K
   refine norm_ (a' := ?_) ?_ ?_
   rotate_left
   · show Act.put _ (some 30) _ = _
     simp only [puts_]
     rfl
   refine pu_ (i := 17) (N := 31) (v := ?_) (a' := ?_) (ar 20 18 []) rfl rfl (any_of HT_.out (by kernel_rfl)) ?_ ?_ ?_
   rotate_left
   · intro w'
     go_simp
     with_reducible rfl
   rotate_left
   · simp only [puts_]
     rfl
   refine pu_ (i := 18) (N := 32) (v := ?_) (a' := ?_) (ar 20 19 []) rfl rfl (any_of HT_.out (by kernel_rfl)) ?_ ?_ ?_
   rotate_left
   · intro w'
     go_simp
     with_reducible rfl
   rotate_left
   · simp only [puts_]
     rfl
   refine pu_ (i := 19) (N := 33) (v := ?_) (a' := ?_) (ar 20 20 []) rfl rfl (any_of HT_.out (by kernel_rfl)) ?_ ?_ ?_
   rotate_left
   · intro w'
     go_simp
     with_reducible rfl
   rotate_left
   · simp only [puts_]
     rfl
   refine done_ (done_of HT_.out (by kernel_rfl)) ?_
   try go_wp2
   go_roundg k1
   case measure => have := HK1.out; omega
   case rel => exact ⟨(wrap64 (x9_1 + 1)), (by first | rfl | (simp; done) | (simp [*]; done)), H', ⟨by have := HK1.out; omega⟩, ⟨by (with_reducible repeat (first | refine blk_drewN ?_ _ | refine blk_drew ?_ | refine blk_alloc ?_ _)); exact BK564.out⟩, ⟨below_up HB.out⟩⟩

end Go.Proofs.Ytdgpnmbmnnmdcaa.PFnRopes
