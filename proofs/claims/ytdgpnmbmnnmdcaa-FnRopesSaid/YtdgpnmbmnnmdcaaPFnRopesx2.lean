/- Contracts of Go functions: what print.sh prints, written shorter by low.py. -/
import Derived.Test.YtdgpnmbmnnmdcaaLow
import Derived.Test.YtdgpnmbmnnmdcaaUp
import Derived.Test.YtdgpnmbmnnmdcaaPFnRopesx0
import Derived.Test.YtdgpnmbmnnmdcaaPFnRopesx1
namespace Go.Proofs.Ytdgpnmbmnnmdcaa.PFnRopes
open Go.RowKit Go.Proofs.YtdgpnmbmnnmdcaaW.PrintWords Go.Proofs.YtdgpnmbmnnmdcaaW.PrintLast Go.Proofs.YtdgpnmbmnnmdcaaW.PrintMore
attribute [local go_sem] max2_int min2_int max_two min_two max_three min_three max_four min_four   -- for this text's walks alone
set_option linter.unusedVariables false
set_option linter.unusedSimpArgs false

/-! ### impl_AreCrew: function 23 -/
def impl_AreCrew.l0 : Nat → List (S68) → List (S68) → Int → Int → Option (Bool)
 | 0, _, _, _, _ => none
 | k + 1, x0, x5, x6, x7 => if x7 < x6 then (if 0 ≤ x7 then (if x7 < (x5.length : Int) then ((impl_InRange.f ((rd_T68 x5 x7).f0) 1 99).bind fun t112 => (if t112 = true then (if x7 > 0 then (if 0 ≤ (wrap64 (x7 - 1)) then (if (wrap64 (x7 - 1)) < (x0.length : Int) then (if ((rd_T68 x5 x7).f0) ≤ ((rd_T68 x0 (wrap64 (x7 - 1))).f0) then (some false) else ((impl_InRange.f ((rd_T68 x5 x7).f1) 0 100).bind fun t114 => (if t114 = true then ((impl_InRange.f ((rd_T68 x5 x7).f2) 1 10).bind fun t115 => (if t115 = true then (impl_AreCrew.l0 k x0 x5 x6 (wrap64 (x7 + 1))) else (some false))) else (some false)))) else (none)) else (none)) else ((impl_InRange.f ((rd_T68 x5 x7).f1) 0 100).bind fun t116 => (if t116 = true then ((impl_InRange.f ((rd_T68 x5 x7).f2) 1 10).bind fun t117 => (if t117 = true then (impl_AreCrew.l0 k x0 x5 x6 (wrap64 (x7 + 1))) else (some false))) else (some false)))) else (some false))) else (none)) else (none)) else ((impl_InRange.f (x0.length : Int) 1 8).bind fun t109 => (some t109))
def impl_AreCrew.f (k : Nat) (l0 : List (S68)) : Option (Bool) := impl_AreCrew.l0 k l0 l0 (l0.length : Int) 0
theorem impl_AreCrew.mono_l : ∀ k, (∀ y0 y1 y2 y3, LeO (impl_AreCrew.l0 k y0 y1 y2 y3) (impl_AreCrew.l0 (k + 1) y0 y1 y2 y3))
 | 0 => fun _ _ _ _ r h => by simp [impl_AreCrew.l0] at h
 | k + 1 => by
  have ih0 := impl_AreCrew.mono_l k
  · intro y0 y1 y2 y3
    unfold impl_AreCrew.l0
    repeat' first
    | (with_reducible exact ih0 _ _ _ _)
    | (with_reducible exact LeO.refl _)
    | (with_reducible exact LeO.none _)
    | (with_reducible refine LeO.ite ?_ ?_)
    | (with_reducible refine LeO.bind ?_ (fun _ => ?_))
    | exact ih0 _ _ _ _
    | exact LeO.none _
    | refine LeO.ite ?_ ?_
    | refine LeO.bind ?_ (fun _ => ?_)
theorem impl_AreCrew.mono : ∀ a0 k, LeO (impl_AreCrew.f k a0) (impl_AreCrew.f (k + 1) a0) := by
 intro a0 k
 have ih0 := impl_AreCrew.mono_l k
 unfold impl_AreCrew.f
 repeat' first
  | (with_reducible exact ih0 _ _ _ _)
  | (with_reducible exact LeO.refl _)
  | (with_reducible exact LeO.none _)
  | (with_reducible refine LeO.ite ?_ ?_)
  | (with_reducible refine LeO.bind ?_ (fun _ => ?_))
  | exact ih0 _ _ _ _
  | exact LeO.none _
  | refine LeO.ite ?_ ?_
  | refine LeO.bind ?_ (fun _ => ?_)
def impl_AreCrew.T4 : Bool × List (List Nat × List Nat) := (true, [([], []), ([0], [0]), ([1], [1]), ([2], [2]), ([3, 2], [3]), ([4], [4]), ([5, 4], [4, 5]), ([6, 4, 4], [4, 6]), ([7], [7]), ([8, 7], [7, 8]), ([7], [7]), ([7], [7]), ([11, 7], [7, 11]), ([10, 12, 7], [7, 10, 12]), ([13, 7], [7, 13]), ([14, 7], [7, 14]), ([9, 15, 7], [7, 9, 15]), ([7, 16, 4], [4, 7, 16]), ([4, 17], [4, 17]), ([18, 7], [18]), ([19], [19]), ([20, 19], [19, 20]), ([21, 19, 19], [19, 21]), ([22, 19], [19, 22]), ([19, 23], [19, 23]), ([24, 22], [24]), ([25], [25]), ([26, 25], [25, 26]), ([27, 25, 25], [25, 27]), ([28, 25], [25, 28]), ([25, 29], [25, 29])])
def impl_AreCrew.B4 : List Nat := [0, 1, 3, 7, 15, 31, 63, 127, 255, 511, 255, 255, 2303, 7423, 15615, 31999, 65535, 131071, 262143, 524287, 1048575, 2097151, 4194303, 8388607, 16777215, 33554431, 67108863, 134217727, 268435455, 536870911, 1073741823]
theorem impl_AreCrew.tab4 : rtab .any (opsOf Try.f23 4) = impl_AreCrew.T4 := by kernel_rfl
theorem impl_AreCrew.bits4 : waitsOk impl_AreCrew.T4.2 impl_AreCrew.B4 = true := by kernel_rfl
set_option maxHeartbeats 8000000 in
set_option maxRecDepth 100000 in
theorem impl_AreCrew.calls (k : Nat) (A0 : Option Addr) (c0 : Nat) (l0 : List (S68)) (r : Bool) (w : World) (hr0 : Kd.C k68 w A0 l0.length l0) (hc0 : l0.length ≤ c0) (h : impl_AreCrew.f k l0 = some r) :
 Calls Try.prog 23 #[.slice A0 l0.length c0] w fun e w' => e = .returned (.bool r) ∧ Below w.heap.size w w' := by
 have hu68 := Try.underlying68
 have HR0 := Aside0.mk hr0
 have HC0 := Aside0.mk hc0
 clear hr0 hc0
 have HB := Aside0.mk (Below.refl w.heap.size w)
 have H : (impl_AreCrew.l0 k l0 l0 (l0.length : Int) 0) = some r := h
 clear h
 have H' := Aside0.mk H
 clear H
 go_enter Try.func23, Try.ntmps23
 go_wp2
 go_loopg [7] k (fun kq v7 w' => ∃ (x7_1 : Int), v7 = .int .i64 x7_1 ∧ Aside0 (impl_AreCrew.l0 kq l0 l0 (l0.length : Int) x7_1 = some r) ∧ Aside0 (kq ≤ k) ∧ Aside0 (Below w.heap.size w w'))
 case atStart => exact ⟨(0), (by first | rfl | (simp; done) | (simp [*]; done)), H', ⟨Nat.le_refl _⟩, ⟨below_up HB.out⟩⟩
 case round =>
  clear H'
  obtain ⟨x7_1, rfl, HA, HK1, HB⟩ := hrel
  cases gk with
  | zero => exact absurd HA.out (by simp [impl_AreCrew.l0])
  | succ k1 =>
   have H := HA.out
   clear HA
   simp only [impl_AreCrew.l0] at H
   by_cases c2 : x7_1 < (l0.length : Int)
   rotate_left
   · rw [if_neg c2] at H
     have c2b0 : decide (x7_1 < (l0.length : Int)) = false := decide_eq_false c2
     clear c2
     replace H := Option.bind_eq_some_iff.mp H
     obtain ⟨t109, A520, H⟩ := H
     have A52 := Aside0.mk A520
     clear A520
     obtain rfl := Option.some.inj H
     go_wp2_with (first | ((with_reducible refine gate_callee (f := 56) rfl ?_); refine goesL_ (some 46) rfl rfl Try.func56 (by kernel_rfl) rfl #[.int .i64 (l0.length : Int), .int .i64 1, .int .i64 8] rfl (by (try simp only [am_]); first | done | rfl) ?_; (with_reducible refine (impl_InRange.calls (l0.length : Int) 1 8 t109 _ A52.out).mono ?_); rintro e w' ⟨rfl, ⟨nd, rfl⟩⟩; refine ⟨_, rfl, ?_⟩))
     go_ret
     exact ⟨by first | rfl | (simp [errW_none, errW_some] <;> rfl) | (simp [*, errW_none, errW_some] <;> rfl), below_up HB.out⟩
   rw [if_pos c2] at H
   have c2b0 : decide (x7_1 < (l0.length : Int)) = true := decide_eq_true c2
   clear c2
   by_cases c3 : 0 ≤ x7_1
   rotate_left
   · rw [if_neg c3] at H
     exact absurd H (by simp)
   rw [if_pos c3] at H
   have c3b0 : decide (0 ≤ x7_1) = true := decide_eq_true c3
   clear c3
   by_cases c4 : x7_1 < (l0.length : Int)
   rotate_left
   · rw [if_neg c4] at H
     exact absurd H (by simp)
   rw [if_pos c4] at H
   have c4b0 : decide (x7_1 < (l0.length : Int)) = true := decide_eq_true c4
   clear c4
   replace H := Option.bind_eq_some_iff.mp H
   obtain ⟨t112, A50, H⟩ := H
   have A5 := Aside0.mk A50
   clear A50
   by_cases c6 : t112 = true
   rotate_left
   · replace c6 := Bool.eq_false_iff.mpr c6
     subst c6
     rw [if_neg (show ¬ (false = true) by decide)] at H
     obtain rfl := Option.some.inj H
     have p110 : 0 ≤ (x7_1 : Int) := of_decide_eq_true (by first | (with_reducible assumption) | assumption)
     have q110 : x7_1 < (l0.length : Int) := of_decide_eq_true (by first | (with_reducible assumption) | assumption)
     obtain ⟨ad110, e110, hx110_0, hx110_1, hx110_2, hx110_3⟩ := at_T68 HR0.out x7_1 p110 q110
     cases e110
     replace hx110_0 := (cel HB.out hx110_0 :)
     replace hx110_1 := (cel HB.out hx110_1 :)
     replace hx110_2 := (cel HB.out hx110_2 :)
     replace hx110_3 := (cel HB.out hx110_3 :)
     replace p110 := eq_true p110
     replace q110 := eq_true q110
     try go_wp2_with (first | ((with_reducible refine gate_dst (N := 4) rfl ?_); refine box_event ?hg (N := 4) ?hd (cs := #[.int .i64 0, .int .i64 0, .int .i64 0, .bool false]) (t := 68) ?hr ?_; (case hd => rfl); (case hg => rfl); (case hr => first | (go_simp; done) | (go_simp; rfl)); intro gb111 hg w48 hbox hb; have n0_ := Aside0.mk (below_step (below_up HB.out) hb); have n1_ := Aside0.mk (hbox); have n2_ := Aside0.mk (szle hg HB.out); have n3_ := Aside0.mk (szle hg HB.out); replace HB := n0_; have BK111 := n1_; have GW111 := n2_; have GE111 := n3_; clear n0_ n1_ n2_ n3_; clear hb hbox hg; obtain ⟨hcz49_0, hcz49_1, hcz49_2, hcz49_3⟩ := cells4_ BK111.out; obtain ⟨hfz49_0, hfz49_1, hfz49_2, hfz49_3⟩ := frz4_ BK111.out))
     have n0_ : Aside0 (((((w48.setCell ⟨gb111, 0, none⟩ (.int .i64 ((rd_T68 l0 x7_1).f0))).setCell ⟨gb111, 1, none⟩ (.int .i64 ((rd_T68 l0 x7_1).f1))).setCell ⟨gb111, 2, none⟩ (.int .i64 ((rd_T68 l0 x7_1).f2))).setCell ⟨gb111, 3, none⟩ (.bool ((rd_T68 l0 x7_1).f3))).heap[gb111]? = some (.cells #[.int .i64 ((rd_T68 l0 x7_1).f0), .int .i64 ((rd_T68 l0 x7_1).f1), .int .i64 ((rd_T68 l0 x7_1).f2), .bool ((rd_T68 l0 x7_1).f3)] 68 (0, 0))) := ⟨by (with_reducible repeat (first | refine blk_drewN ?_ _ | refine blk_drew ?_ | refine blk_alloc ?_ _)); refine blk_put (cs := #[.int .i64 ((rd_T68 l0 x7_1).f0), .int .i64 ((rd_T68 l0 x7_1).f1), .int .i64 ((rd_T68 l0 x7_1).f2), .bool false]) ?_ 3 _ rfl; (with_reducible repeat (first | refine blk_drewN ?_ _ | refine blk_drew ?_ | refine blk_alloc ?_ _)); refine blk_put (cs := #[.int .i64 ((rd_T68 l0 x7_1).f0), .int .i64 ((rd_T68 l0 x7_1).f1), .int .i64 0, .bool false]) ?_ 2 _ rfl; (with_reducible repeat (first | refine blk_drewN ?_ _ | refine blk_drew ?_ | refine blk_alloc ?_ _)); refine blk_put (cs := #[.int .i64 ((rd_T68 l0 x7_1).f0), .int .i64 0, .int .i64 0, .bool false]) ?_ 1 _ rfl; (with_reducible repeat (first | refine blk_drewN ?_ _ | refine blk_drew ?_ | refine blk_alloc ?_ _)); refine blk_put (cs := #[.int .i64 0, .int .i64 0, .int .i64 0, .bool false]) ?_ 0 _ rfl; (with_reducible repeat (first | refine blk_drewN ?_ _ | refine blk_drew ?_ | refine blk_alloc ?_ _)); exact BK111.out⟩
     have n1_ : Aside0 (Below w.heap.size w ((((w48.setCell ⟨gb111, 0, none⟩ (.int .i64 ((rd_T68 l0 x7_1).f0))).setCell ⟨gb111, 1, none⟩ (.int .i64 ((rd_T68 l0 x7_1).f1))).setCell ⟨gb111, 2, none⟩ (.int .i64 ((rd_T68 l0 x7_1).f2))).setCell ⟨gb111, 3, none⟩ (.bool ((rd_T68 l0 x7_1).f3)))) := ⟨by repeat (first | (with_reducible first | exact HB.out | apply below_alloc | apply pw_below_drewN | apply below_drew1 | refine below_set ?_ GE111.out) | exact HB.out)⟩
     (try clear BK111)
     (try clear HB)
     generalize ((((w48.setCell ⟨gb111, 0, none⟩ (.int .i64 ((rd_T68 l0 x7_1).f0))).setCell ⟨gb111, 1, none⟩ (.int .i64 ((rd_T68 l0 x7_1).f1))).setCell ⟨gb111, 2, none⟩ (.int .i64 ((rd_T68 l0 x7_1).f2))).setCell ⟨gb111, 3, none⟩ (.bool ((rd_T68 l0 x7_1).f3))) = w50 at n0_ n1_ ⊢
     have BK111 := n0_
     have HB := n1_
     clear n0_ n1_
     have n0_ := Aside0.mk (blk_drew BK111.out)
     have n1_ := Aside0.mk (below_drew1 HB.out)
     clear BK111
     clear HB
     have BK111 := n0_
     have HB := n1_
     clear n0_ n1_
     refine start_ (n := 31) (S := fun w' => w'.cell? ⟨gb111, 0, none⟩ = some (.int .i64 ((rd_T68 l0 x7_1).f0)) ∧ w'.cell? ⟨gb111, 1, none⟩ = some (.int .i64 ((rd_T68 l0 x7_1).f1)) ∧ w'.cell? ⟨gb111, 2, none⟩ = some (.int .i64 ((rd_T68 l0 x7_1).f2)) ∧ w'.cell? ⟨gb111, 3, none⟩ = some (.bool ((rd_T68 l0 x7_1).f3))) (ds := []) (ar 31 0 []) (by kernel_rfl) rfl rfl ⟨(blk_cell BK111.out 0).trans rfl, (blk_cell BK111.out 1).trans rfl, (blk_cell BK111.out 2).trans rfl, (blk_cell BK111.out 3).trans rfl⟩ (fun hHeld => ?_); refine with_tabW impl_AreCrew.tab4 impl_AreCrew.bits4 (fun HT_ HW_ => ?_)
     generalize w50.drew = w51 at BK111 HB hHeld ⊢
     refine pu_ (i := 0) (N := 12) (v := ?_) (a' := ?_) (ar 31 1 []) rfl rfl (any_of HT_.out (by kernel_rfl)) ?_ ?_ ?_
     rotate_left
     · intro w'
       go_simp
       with_reducible rfl
     rotate_left
     · simp only [puts_]
       rfl
     refine tk_ (i := 1) (N := 13) (v := ?_) (a' := ?_) (ar 31 2 []) rfl rfl (take_ofW HT_.out HW_.out (by kernel_rfl)) ?_ hHeld ?_ ?_
     rotate_left
     · rintro w' ⟨s0, s1, s2, s3⟩
       go_simp
       with_reducible rfl
     rotate_left
     · simp only [puts_]
       rfl
     refine one_ (i := 2) (N := some 14) (ar 31 3 []) rfl rfl (one_of HT_.out (by kernel_rfl)) (by decide) (fun K hK => ?_)
     refine goes_ Try.func56 (by kernel_rfl) rfl #[.int .i64 ((rd_T68 l0 x7_1).f0), .int .i64 1, .int .i64 99] (by rfl) rfl rfl (by (try simp only [am_]); first | done | rfl) ?_
     with_reducible refine (impl_InRange.calls ((rd_T68 l0 x7_1).f0) 1 99 false _ A5.out).mono ?_
     rintro e w' ⟨rfl, ⟨nd, rfl⟩⟩
     refine ⟨_, rfl, ?_⟩
     refine hK.out _ _ ⟨(blk_cell BK111.out 0).trans rfl, (blk_cell BK111.out 1).trans rfl, (blk_cell BK111.out 2).trans rfl, (blk_cell BK111.out 3).trans rfl⟩ (fun hHeld => ?_)
     clear hK K
     refine norm_ (a' := ?_) ?_ ?_
     rotate_left
     · show Act.put _ (some 14) _ = _
       simp only [puts_]
       rfl
     refine pu_ (i := 3) (N := 15) (v := ?_) (a' := ?_) (ar 31 4 []) rfl rfl (any_of HT_.out (by kernel_rfl)) ?_ ?_ ?_
     rotate_left
     · intro w'
       go_simp
       with_reducible rfl
     rotate_left
     · simp only [puts_]
       rfl
     refine pu_ (i := 4) (N := 16) (v := ?_) (a' := ?_) (ar 31 5 []) rfl rfl (any_of HT_.out (by kernel_rfl)) ?_ ?_ ?_
     rotate_left
     · intro w'
       go_simp
       with_reducible rfl
     rotate_left
     · simp only [puts_]
       rfl
     refine pn_ (i := 5) (N := 17) (a' := ?_) (ar 31 6 []) rfl rfl (any_of HT_.out (by kernel_rfl)) ?_ ?_
     rotate_left
     · simp only [puts_]
       rfl
     refine pn_ (i := 6) (N := 18) (a' := ?_) (ar 31 7 []) rfl rfl (any_of HT_.out (by kernel_rfl)) ?_ ?_
     rotate_left
     · simp only [puts_]
       rfl
     refine pn_ (i := 7) (N := 19) (a' := ?_) (ar 31 8 []) rfl rfl (any_of HT_.out (by kernel_rfl)) ?_ ?_
     rotate_left
     · simp only [puts_]
       rfl
     refine pn_ (i := 8) (N := 20) (a' := ?_) (ar 31 9 []) rfl rfl (any_of HT_.out (by kernel_rfl)) ?_ ?_
     rotate_left
     · simp only [puts_]
       rfl
     refine pn_ (i := 9) (N := 21) (a' := ?_) (ar 31 10 []) rfl rfl (any_of HT_.out (by kernel_rfl)) ?_ ?_
     rotate_left
     · simp only [puts_]
       rfl
     refine pn_ (i := 10) (N := 22) (a' := ?_) (ar 31 11 []) rfl rfl (any_of HT_.out (by kernel_rfl)) ?_ ?_
     rotate_left
     · simp only [puts_]
       rfl
     refine pn_ (i := 11) (N := 23) (a' := ?_) (ar 31 12 []) rfl rfl (any_of HT_.out (by kernel_rfl)) ?_ ?_
     rotate_left
     · simp only [puts_]
       rfl
     refine pn_ (i := 12) (N := 24) (a' := ?_) (ar 31 13 []) rfl rfl (any_of HT_.out (by kernel_rfl)) ?_ ?_
     rotate_left
     · simp only [puts_]
       rfl
     refine pn_ (i := 13) (N := 25) (a' := ?_) (ar 31 14 []) rfl rfl (any_of HT_.out (by kernel_rfl)) ?_ ?_
     rotate_left
     · simp only [puts_]
       rfl
     refine pn_ (i := 14) (N := 26) (a' := ?_) (ar 31 15 []) rfl rfl (any_of HT_.out (by kernel_rfl)) ?_ ?_
     rotate_left
     · simp only [puts_]
       rfl
     refine pn_ (i := 15) (N := 27) (a' := ?_) (ar 31 16 []) rfl rfl (any_of HT_.out (by kernel_rfl)) ?_ ?_
     rotate_left
     · simp only [puts_]
       rfl
     refine pn_ (i := 16) (N := 28) (a' := ?_) (ar 31 17 []) rfl rfl (any_of HT_.out (by kernel_rfl)) ?_ ?_
     rotate_left
     · simp only [puts_]
       rfl
     refine pn_ (i := 17) (N := 29) (a' := ?_) (ar 31 18 []) rfl rfl (any_of HT_.out (by kernel_rfl)) ?_ ?_
     rotate_left
     · simp only [puts_]
       rfl
     refine pu_ (i := 18) (N := 30) (v := ?_) (a' := ?_) (ar 31 19 []) rfl rfl (any_of HT_.out (by kernel_rfl)) ?_ ?_ ?_
     rotate_left
     · intro w'
       go_simp
       with_reducible rfl
     rotate_left
     · simp only [puts_]
       rfl
     refine pu_ (i := 19) (N := 31) (v := ?_) (a' := ?_) (ar 31 20 []) rfl rfl (any_of HT_.out (by kernel_rfl)) ?_ ?_ ?_
     rotate_left
     · intro w'
       go_simp
       with_reducible rfl
     rotate_left
     · simp only [puts_]
       rfl
     refine pn_ (i := 20) (N := 32) (a' := ?_) (ar 31 21 []) rfl rfl (any_of HT_.out (by kernel_rfl)) ?_ ?_
     rotate_left
     · simp only [puts_]
       rfl
     refine pn_ (i := 21) (N := 33) (a' := ?_) (ar 31 22 []) rfl rfl (any_of HT_.out (by kernel_rfl)) ?_ ?_
     rotate_left
     · simp only [puts_]
       rfl
     refine pn_ (i := 22) (N := 34) (a' := ?_) (ar 31 23 []) rfl rfl (any_of HT_.out (by kernel_rfl)) ?_ ?_
     rotate_left
     · simp only [puts_]
       rfl
     refine pn_ (i := 23) (N := 35) (a' := ?_) (ar 31 24 []) rfl rfl (any_of HT_.out (by kernel_rfl)) ?_ ?_
     rotate_left
     · simp only [puts_]
       rfl
     refine pu_ (i := 24) (N := 36) (v := ?_) (a' := ?_) (ar 31 25 []) rfl rfl (any_of HT_.out (by kernel_rfl)) ?_ ?_ ?_
     rotate_left
     · intro w'
       go_simp
       with_reducible rfl
     rotate_left
     · simp only [puts_]
       rfl
     refine pu_ (i := 25) (N := 37) (v := ?_) (a' := ?_) (ar 31 26 []) rfl rfl (any_of HT_.out (by kernel_rfl)) ?_ ?_ ?_
     rotate_left
     · intro w'
       go_simp
       with_reducible rfl
     rotate_left
     · simp only [puts_]
       rfl
     refine pn_ (i := 26) (N := 38) (a' := ?_) (ar 31 27 []) rfl rfl (any_of HT_.out (by kernel_rfl)) ?_ ?_
     rotate_left
     · simp only [puts_]
       rfl
     refine pn_ (i := 27) (N := 39) (a' := ?_) (ar 31 28 []) rfl rfl (any_of HT_.out (by kernel_rfl)) ?_ ?_
     rotate_left
     · simp only [puts_]
       rfl
     refine pn_ (i := 28) (N := 40) (a' := ?_) (ar 31 29 []) rfl rfl (any_of HT_.out (by kernel_rfl)) ?_ ?_
     rotate_left
     · simp only [puts_]
       rfl
     refine pn_ (i := 29) (N := 41) (a' := ?_) (ar 31 30 []) rfl rfl (any_of HT_.out (by kernel_rfl)) ?_ ?_
     rotate_left
     · simp only [puts_]
       rfl
     refine pu_ (i := 30) (N := 42) (v := ?_) (a' := ?_) (ar 31 31 []) rfl rfl (any_of HT_.out (by kernel_rfl)) ?_ ?_ ?_
     rotate_left
     · intro w'
       go_simp
       with_reducible rfl
     rotate_left
     · simp only [puts_]
       rfl
     refine done_ (done_of HT_.out (by kernel_rfl)) ?_
     try go_wp2
     go_ret
     exact ⟨by first | rfl | (simp [errW_none, errW_some] <;> rfl) | (simp [*, errW_none, errW_some] <;> rfl), below_up HB.out⟩
   subst c6
   rw [if_pos rfl] at H
   by_cases c7 : x7_1 > 0
   rotate_left
   · rw [if_neg c7] at H
     have c7b0 : decide (0 < x7_1) = false := decide_eq_false c7
     clear c7
     replace H := Option.bind_eq_some_iff.mp H
     obtain ⟨t116, A320, H⟩ := H
     have A32 := Aside0.mk A320
     clear A320
     by_cases c33 : t116 = true
     rotate_left
     · replace c33 := Bool.eq_false_iff.mpr c33
       subst c33
       rw [if_neg (show ¬ (false = true) by decide)] at H
       obtain rfl := Option.some.inj H
       have p110 : 0 ≤ (x7_1 : Int) := of_decide_eq_true (by first | (with_reducible assumption) | assumption)
       have q110 : x7_1 < (l0.length : Int) := of_decide_eq_true (by first | (with_reducible assumption) | assumption)
       obtain ⟨ad110, e110, hx110_0, hx110_1, hx110_2, hx110_3⟩ := at_T68 HR0.out x7_1 p110 q110
       cases e110
       replace hx110_0 := (cel HB.out hx110_0 :)
       replace hx110_1 := (cel HB.out hx110_1 :)
       replace hx110_2 := (cel HB.out hx110_2 :)
       replace hx110_3 := (cel HB.out hx110_3 :)
       replace p110 := eq_true p110
       replace q110 := eq_true q110
       try go_wp2_with (first | ((with_reducible refine gate_dst (N := 4) rfl ?_); refine box_event ?hg (N := 4) ?hd (cs := #[.int .i64 0, .int .i64 0, .int .i64 0, .bool false]) (t := 68) ?hr ?_; (case hd => rfl); (case hg => rfl); (case hr => first | (go_simp; done) | (go_simp; rfl)); intro gb111 hg w44 hbox hb; have n0_ := Aside0.mk (below_step (below_up HB.out) hb); have n1_ := Aside0.mk (hbox); have n2_ := Aside0.mk (szle hg HB.out); have n3_ := Aside0.mk (szle hg HB.out); replace HB := n0_; have BK111 := n1_; have GW111 := n2_; have GE111 := n3_; clear n0_ n1_ n2_ n3_; clear hb hbox hg; obtain ⟨hcz45_0, hcz45_1, hcz45_2, hcz45_3⟩ := cells4_ BK111.out; obtain ⟨hfz45_0, hfz45_1, hfz45_2, hfz45_3⟩ := frz4_ BK111.out))
       have n0_ : Aside0 (((((w44.setCell ⟨gb111, 0, none⟩ (.int .i64 ((rd_T68 l0 x7_1).f0))).setCell ⟨gb111, 1, none⟩ (.int .i64 ((rd_T68 l0 x7_1).f1))).setCell ⟨gb111, 2, none⟩ (.int .i64 ((rd_T68 l0 x7_1).f2))).setCell ⟨gb111, 3, none⟩ (.bool ((rd_T68 l0 x7_1).f3))).heap[gb111]? = some (.cells #[.int .i64 ((rd_T68 l0 x7_1).f0), .int .i64 ((rd_T68 l0 x7_1).f1), .int .i64 ((rd_T68 l0 x7_1).f2), .bool ((rd_T68 l0 x7_1).f3)] 68 (0, 0))) := ⟨by (with_reducible repeat (first | refine blk_drewN ?_ _ | refine blk_drew ?_ | refine blk_alloc ?_ _)); refine blk_put (cs := #[.int .i64 ((rd_T68 l0 x7_1).f0), .int .i64 ((rd_T68 l0 x7_1).f1), .int .i64 ((rd_T68 l0 x7_1).f2), .bool false]) ?_ 3 _ rfl; (with_reducible repeat (first | refine blk_drewN ?_ _ | refine blk_drew ?_ | refine blk_alloc ?_ _)); refine blk_put (cs := #[.int .i64 ((rd_T68 l0 x7_1).f0), .int .i64 ((rd_T68 l0 x7_1).f1), .int .i64 0, .bool false]) ?_ 2 _ rfl; (with_reducible repeat (first | refine blk_drewN ?_ _ | refine blk_drew ?_ | refine blk_alloc ?_ _)); refine blk_put (cs := #[.int .i64 ((rd_T68 l0 x7_1).f0), .int .i64 0, .int .i64 0, .bool false]) ?_ 1 _ rfl; (with_reducible repeat (first | refine blk_drewN ?_ _ | refine blk_drew ?_ | refine blk_alloc ?_ _)); refine blk_put (cs := #[.int .i64 0, .int .i64 0, .int .i64 0, .bool false]) ?_ 0 _ rfl; (with_reducible repeat (first | refine blk_drewN ?_ _ | refine blk_drew ?_ | refine blk_alloc ?_ _)); exact BK111.out⟩
       have n1_ : Aside0 (Below w.heap.size w ((((w44.setCell ⟨gb111, 0, none⟩ (.int .i64 ((rd_T68 l0 x7_1).f0))).setCell ⟨gb111, 1, none⟩ (.int .i64 ((rd_T68 l0 x7_1).f1))).setCell ⟨gb111, 2, none⟩ (.int .i64 ((rd_T68 l0 x7_1).f2))).setCell ⟨gb111, 3, none⟩ (.bool ((rd_T68 l0 x7_1).f3)))) := ⟨by repeat (first | (with_reducible first | exact HB.out | apply below_alloc | apply pw_below_drewN | apply below_drew1 | refine below_set ?_ GE111.out) | exact HB.out)⟩
       (try clear BK111)
       (try clear HB)
       generalize ((((w44.setCell ⟨gb111, 0, none⟩ (.int .i64 ((rd_T68 l0 x7_1).f0))).setCell ⟨gb111, 1, none⟩ (.int .i64 ((rd_T68 l0 x7_1).f1))).setCell ⟨gb111, 2, none⟩ (.int .i64 ((rd_T68 l0 x7_1).f2))).setCell ⟨gb111, 3, none⟩ (.bool ((rd_T68 l0 x7_1).f3))) = w46 at n0_ n1_ ⊢
       have BK111 := n0_
       have HB := n1_
       clear n0_ n1_
       have n0_ := Aside0.mk (blk_drew BK111.out)
       have n1_ := Aside0.mk (below_drew1 HB.out)
       clear BK111
       clear HB
       have BK111 := n0_
       have HB := n1_
       clear n0_ n1_
       refine start_ (n := 31) (S := fun w' => w'.cell? ⟨gb111, 0, none⟩ = some (.int .i64 ((rd_T68 l0 x7_1).f0)) ∧ w'.cell? ⟨gb111, 1, none⟩ = some (.int .i64 ((rd_T68 l0 x7_1).f1)) ∧ w'.cell? ⟨gb111, 2, none⟩ = some (.int .i64 ((rd_T68 l0 x7_1).f2)) ∧ w'.cell? ⟨gb111, 3, none⟩ = some (.bool ((rd_T68 l0 x7_1).f3))) (ds := []) (ar 31 0 []) (by kernel_rfl) rfl rfl ⟨(blk_cell BK111.out 0).trans rfl, (blk_cell BK111.out 1).trans rfl, (blk_cell BK111.out 2).trans rfl, (blk_cell BK111.out 3).trans rfl⟩ (fun hHeld => ?_); refine with_tabW impl_AreCrew.tab4 impl_AreCrew.bits4 (fun HT_ HW_ => ?_)
       generalize w46.drew = w47 at BK111 HB hHeld ⊢
       refine pu_ (i := 0) (N := 12) (v := ?_) (a' := ?_) (ar 31 1 []) rfl rfl (any_of HT_.out (by kernel_rfl)) ?_ ?_ ?_
       rotate_left
       · intro w'
         go_simp
         with_reducible rfl
       rotate_left
       · simp only [puts_]
         rfl
       refine tk_ (i := 1) (N := 13) (v := ?_) (a' := ?_) (ar 31 2 []) rfl rfl (take_ofW HT_.out HW_.out (by kernel_rfl)) ?_ hHeld ?_ ?_
       rotate_left
       · rintro w' ⟨s0, s1, s2, s3⟩
         go_simp
         with_reducible rfl
       rotate_left
       · simp only [puts_]
         rfl
       refine one_ (i := 2) (N := some 14) (ar 31 3 []) rfl rfl (one_of HT_.out (by kernel_rfl)) (by decide) (fun K hK => ?_)
       refine goes_ Try.func56 (by kernel_rfl) rfl #[.int .i64 ((rd_T68 l0 x7_1).f0), .int .i64 1, .int .i64 99] (by rfl) rfl rfl (by (try simp only [am_]); first | done | rfl) ?_
       with_reducible refine (impl_InRange.calls ((rd_T68 l0 x7_1).f0) 1 99 true _ A5.out).mono ?_
       rintro e w' ⟨rfl, ⟨nd, rfl⟩⟩
       refine ⟨_, rfl, ?_⟩
       refine hK.out _ _ ⟨(blk_cell BK111.out 0).trans rfl, (blk_cell BK111.out 1).trans rfl, (blk_cell BK111.out 2).trans rfl, (blk_cell BK111.out 3).trans rfl⟩ (fun hHeld => ?_)
       clear hK K
       refine norm_ (a' := ?_) ?_ ?_
       rotate_left
       · show Act.put _ (some 14) _ = _
         simp only [puts_]
         rfl
       refine pu_ (i := 3) (N := 15) (v := ?_) (a' := ?_) (ar 31 4 []) rfl rfl (any_of HT_.out (by kernel_rfl)) ?_ ?_ ?_
       rotate_left
       · intro w'
         go_simp
         with_reducible rfl
       rotate_left
       · simp only [puts_]
         rfl
       refine pu_ (i := 4) (N := 16) (v := ?_) (a' := ?_) (ar 31 5 []) rfl rfl (any_of HT_.out (by kernel_rfl)) ?_ ?_ ?_
       rotate_left
       · intro w'
         go_simp
         with_reducible rfl
       rotate_left
       · simp only [puts_]
         rfl
       refine pu_ (i := 5) (N := 17) (v := ?_) (a' := ?_) (ar 31 6 []) rfl rfl (any_of HT_.out (by kernel_rfl)) ?_ ?_ ?_
       rotate_left
       · intro w'
         go_simp
         with_reducible rfl
       rotate_left
       · simp only [puts_]
         rfl
       refine pu_ (i := 6) (N := 18) (v := ?_) (a' := ?_) (ar 31 7 []) rfl rfl (any_of HT_.out (by kernel_rfl)) ?_ ?_ ?_
       rotate_left
       · intro w'
         go_simp
         with_reducible rfl
       rotate_left
       · simp only [puts_]
         rfl
       refine pu_ (i := 7) (N := 19) (v := ?_) (a' := ?_) (ar 31 8 []) rfl rfl (any_of HT_.out (by kernel_rfl)) ?_ ?_ ?_
       rotate_left
       · intro w'
         go_simp
         with_reducible rfl
       rotate_left
       · simp only [puts_]
         rfl
       refine pn_ (i := 8) (N := 20) (a' := ?_) (ar 31 9 []) rfl rfl (any_of HT_.out (by kernel_rfl)) ?_ ?_
       rotate_left
       · simp only [puts_]
         rfl
       refine pn_ (i := 9) (N := 21) (a' := ?_) (ar 31 10 []) rfl rfl (any_of HT_.out (by kernel_rfl)) ?_ ?_
       rotate_left
       · simp only [puts_]
         rfl
       refine pn_ (i := 10) (N := 22) (a' := ?_) (ar 31 11 []) rfl rfl (any_of HT_.out (by kernel_rfl)) ?_ ?_
       rotate_left
       · simp only [puts_]
         rfl
       refine pn_ (i := 11) (N := 23) (a' := ?_) (ar 31 12 []) rfl rfl (any_of HT_.out (by kernel_rfl)) ?_ ?_
       rotate_left
       · simp only [puts_]
         rfl
       refine pn_ (i := 12) (N := 24) (a' := ?_) (ar 31 13 []) rfl rfl (any_of HT_.out (by kernel_rfl)) ?_ ?_
       rotate_left
       · simp only [puts_]
         rfl
       refine pn_ (i := 13) (N := 25) (a' := ?_) (ar 31 14 []) rfl rfl (any_of HT_.out (by kernel_rfl)) ?_ ?_
       rotate_left
       · simp only [puts_]
         rfl
       refine pn_ (i := 14) (N := 26) (a' := ?_) (ar 31 15 []) rfl rfl (any_of HT_.out (by kernel_rfl)) ?_ ?_
       rotate_left
       · simp only [puts_]
         rfl
       refine pn_ (i := 15) (N := 27) (a' := ?_) (ar 31 16 []) rfl rfl (any_of HT_.out (by kernel_rfl)) ?_ ?_
       rotate_left
       · simp only [puts_]
         rfl
       refine pn_ (i := 16) (N := 28) (a' := ?_) (ar 31 17 []) rfl rfl (any_of HT_.out (by kernel_rfl)) ?_ ?_
       rotate_left
       · simp only [puts_]
         rfl
       refine pu_ (i := 17) (N := 29) (v := ?_) (a' := ?_) (ar 31 18 []) rfl rfl (any_of HT_.out (by kernel_rfl)) ?_ ?_ ?_
       rotate_left
       · intro w'
         go_simp
         with_reducible rfl
       rotate_left
       · simp only [puts_]
         rfl
       refine pu_ (i := 18) (N := 30) (v := ?_) (a' := ?_) (ar 31 19 []) rfl rfl (any_of HT_.out (by kernel_rfl)) ?_ ?_ ?_
       rotate_left
       · intro w'
         go_simp
         with_reducible rfl
       rotate_left
       · simp only [puts_]
         rfl
       refine pu_ (i := 19) (N := 31) (v := ?_) (a' := ?_) (ar 31 20 []) rfl rfl (any_of HT_.out (by kernel_rfl)) ?_ ?_ ?_
       rotate_left
       · intro w'
         go_simp
         with_reducible rfl
       rotate_left
       · simp only [puts_]
         rfl
       refine pu_ (i := 20) (N := 32) (v := ?_) (a' := ?_) (ar 31 21 []) rfl rfl (any_of HT_.out (by kernel_rfl)) ?_ ?_ ?_
       rotate_left
       · intro w'
         go_simp
         with_reducible rfl
       rotate_left
       · simp only [puts_]
         rfl
       refine tk_ (i := 21) (N := 33) (v := ?_) (a' := ?_) (ar 31 22 []) rfl rfl (take_ofW HT_.out HW_.out (by kernel_rfl)) ?_ hHeld ?_ ?_
       rotate_left
       · rintro w' ⟨s0, s1, s2, s3⟩
         go_simp
         with_reducible rfl
       rotate_left
       · simp only [puts_]
         rfl
       refine one_ (i := 22) (N := some 34) (ar 31 23 []) rfl rfl (one_of HT_.out (by kernel_rfl)) (by decide) (fun K hK => ?_)
       refine goes_ Try.func56 (by kernel_rfl) rfl #[.int .i64 ((rd_T68 l0 x7_1).f1), .int .i64 0, .int .i64 100] (by rfl) rfl rfl (by (try simp only [am_]); first | done | rfl) ?_
       with_reducible refine (impl_InRange.calls ((rd_T68 l0 x7_1).f1) 0 100 false _ A32.out).mono ?_
       rintro e w' ⟨rfl, ⟨nd, rfl⟩⟩
       refine ⟨_, rfl, ?_⟩
       refine hK.out _ _ ⟨(blk_cell BK111.out 0).trans rfl, (blk_cell BK111.out 1).trans rfl, (blk_cell BK111.out 2).trans rfl, (blk_cell BK111.out 3).trans rfl⟩ (fun hHeld => ?_)
       clear hK K
       refine norm_ (a' := ?_) ?_ ?_
       rotate_left
       · show Act.put _ (some 34) _ = _
         simp only [puts_]
         rfl
       refine pu_ (i := 23) (N := 35) (v := ?_) (a' := ?_) (ar 31 24 []) rfl rfl (any_of HT_.out (by kernel_rfl)) ?_ ?_ ?_
       rotate_left
       · intro w'
         go_simp
         with_reducible rfl
       rotate_left
       · simp only [puts_]
         rfl
       refine pu_ (i := 24) (N := 36) (v := ?_) (a' := ?_) (ar 31 25 []) rfl rfl (any_of HT_.out (by kernel_rfl)) ?_ ?_ ?_
       rotate_left
       · intro w'
         go_simp
         with_reducible rfl
       rotate_left
       · simp only [puts_]
         rfl
       refine pu_ (i := 25) (N := 37) (v := ?_) (a' := ?_) (ar 31 26 []) rfl rfl (any_of HT_.out (by kernel_rfl)) ?_ ?_ ?_
       rotate_left
       · intro w'
         go_simp
         with_reducible rfl
       rotate_left
       · simp only [puts_]
         rfl
       refine pn_ (i := 26) (N := 38) (a' := ?_) (ar 31 27 []) rfl rfl (any_of HT_.out (by kernel_rfl)) ?_ ?_
       rotate_left
       · simp only [puts_]
         rfl
       refine pn_ (i := 27) (N := 39) (a' := ?_) (ar 31 28 []) rfl rfl (any_of HT_.out (by kernel_rfl)) ?_ ?_
       rotate_left
       · simp only [puts_]
         rfl
       refine pn_ (i := 28) (N := 40) (a' := ?_) (ar 31 29 []) rfl rfl (any_of HT_.out (by kernel_rfl)) ?_ ?_
       rotate_left
       · simp only [puts_]
         rfl
       refine pn_ (i := 29) (N := 41) (a' := ?_) (ar 31 30 []) rfl rfl (any_of HT_.out (by kernel_rfl)) ?_ ?_
       rotate_left
       · simp only [puts_]
         rfl
       refine pu_ (i := 30) (N := 42) (v := ?_) (a' := ?_) (ar 31 31 []) rfl rfl (any_of HT_.out (by kernel_rfl)) ?_ ?_ ?_
       rotate_left
       · intro w'
         go_simp
         with_reducible rfl
       rotate_left
       · simp only [puts_]
         rfl
       refine done_ (done_of HT_.out (by kernel_rfl)) ?_
       try go_wp2
       go_ret
       exact ⟨by first | rfl | (simp [errW_none, errW_some] <;> rfl) | (simp [*, errW_none, errW_some] <;> rfl), below_up HB.out⟩
     subst c33
     rw [if_pos rfl] at H
     replace H := Option.bind_eq_some_iff.mp H
     obtain ⟨t117, A340, H⟩ := H
     have A34 := Aside0.mk A340
     clear A340
     by_cases c35 : t117 = true
     rotate_left
     · replace c35 := Bool.eq_false_iff.mpr c35
       subst c35
       rw [if_neg (show ¬ (false = true) by decide)] at H
       obtain rfl := Option.some.inj H
       have p110 : 0 ≤ (x7_1 : Int) := of_decide_eq_true (by first | (with_reducible assumption) | assumption)
       have q110 : x7_1 < (l0.length : Int) := of_decide_eq_true (by first | (with_reducible assumption) | assumption)
       obtain ⟨ad110, e110, hx110_0, hx110_1, hx110_2, hx110_3⟩ := at_T68 HR0.out x7_1 p110 q110
       cases e110
       replace hx110_0 := (cel HB.out hx110_0 :)
       replace hx110_1 := (cel HB.out hx110_1 :)
       replace hx110_2 := (cel HB.out hx110_2 :)
       replace hx110_3 := (cel HB.out hx110_3 :)
       replace p110 := eq_true p110
       replace q110 := eq_true q110
       try go_wp2_with (first | ((with_reducible refine gate_dst (N := 4) rfl ?_); refine box_event ?hg (N := 4) ?hd (cs := #[.int .i64 0, .int .i64 0, .int .i64 0, .bool false]) (t := 68) ?hr ?_; (case hd => rfl); (case hg => rfl); (case hr => first | (go_simp; done) | (go_simp; rfl)); intro gb111 hg w40 hbox hb; have n0_ := Aside0.mk (below_step (below_up HB.out) hb); have n1_ := Aside0.mk (hbox); have n2_ := Aside0.mk (szle hg HB.out); have n3_ := Aside0.mk (szle hg HB.out); replace HB := n0_; have BK111 := n1_; have GW111 := n2_; have GE111 := n3_; clear n0_ n1_ n2_ n3_; clear hb hbox hg; obtain ⟨hcz41_0, hcz41_1, hcz41_2, hcz41_3⟩ := cells4_ BK111.out; obtain ⟨hfz41_0, hfz41_1, hfz41_2, hfz41_3⟩ := frz4_ BK111.out))
       have n0_ : Aside0 (((((w40.setCell ⟨gb111, 0, none⟩ (.int .i64 ((rd_T68 l0 x7_1).f0))).setCell ⟨gb111, 1, none⟩ (.int .i64 ((rd_T68 l0 x7_1).f1))).setCell ⟨gb111, 2, none⟩ (.int .i64 ((rd_T68 l0 x7_1).f2))).setCell ⟨gb111, 3, none⟩ (.bool ((rd_T68 l0 x7_1).f3))).heap[gb111]? = some (.cells #[.int .i64 ((rd_T68 l0 x7_1).f0), .int .i64 ((rd_T68 l0 x7_1).f1), .int .i64 ((rd_T68 l0 x7_1).f2), .bool ((rd_T68 l0 x7_1).f3)] 68 (0, 0))) := ⟨by (with_reducible repeat (first | refine blk_drewN ?_ _ | refine blk_drew ?_ | refine blk_alloc ?_ _)); refine blk_put (cs := #[.int .i64 ((rd_T68 l0 x7_1).f0), .int .i64 ((rd_T68 l0 x7_1).f1), .int .i64 ((rd_T68 l0 x7_1).f2), .bool false]) ?_ 3 _ rfl; (with_reducible repeat (first | refine blk_drewN ?_ _ | refine blk_drew ?_ | refine blk_alloc ?_ _)); refine blk_put (cs := #[.int .i64 ((rd_T68 l0 x7_1).f0), .int .i64 ((rd_T68 l0 x7_1).f1), .int .i64 0, .bool false]) ?_ 2 _ rfl; (with_reducible repeat (first | refine blk_drewN ?_ _ | refine blk_drew ?_ | refine blk_alloc ?_ _)); refine blk_put (cs := #[.int .i64 ((rd_T68 l0 x7_1).f0), .int .i64 0, .int .i64 0, .bool false]) ?_ 1 _ rfl; (with_reducible repeat (first | refine blk_drewN ?_ _ | refine blk_drew ?_ | refine blk_alloc ?_ _)); refine blk_put (cs := #[.int .i64 0, .int .i64 0, .int .i64 0, .bool false]) ?_ 0 _ rfl; (with_reducible repeat (first | refine blk_drewN ?_ _ | refine blk_drew ?_ | refine blk_alloc ?_ _)); exact BK111.out⟩
       have n1_ : Aside0 (Below w.heap.size w ((((w40.setCell ⟨gb111, 0, none⟩ (.int .i64 ((rd_T68 l0 x7_1).f0))).setCell ⟨gb111, 1, none⟩ (.int .i64 ((rd_T68 l0 x7_1).f1))).setCell ⟨gb111, 2, none⟩ (.int .i64 ((rd_T68 l0 x7_1).f2))).setCell ⟨gb111, 3, none⟩ (.bool ((rd_T68 l0 x7_1).f3)))) := ⟨by repeat (first | (with_reducible first | exact HB.out | apply below_alloc | apply pw_below_drewN | apply below_drew1 | refine below_set ?_ GE111.out) | exact HB.out)⟩
       (try clear BK111)
       (try clear HB)
       generalize ((((w40.setCell ⟨gb111, 0, none⟩ (.int .i64 ((rd_T68 l0 x7_1).f0))).setCell ⟨gb111, 1, none⟩ (.int .i64 ((rd_T68 l0 x7_1).f1))).setCell ⟨gb111, 2, none⟩ (.int .i64 ((rd_T68 l0 x7_1).f2))).setCell ⟨gb111, 3, none⟩ (.bool ((rd_T68 l0 x7_1).f3))) = w42 at n0_ n1_ ⊢
       have BK111 := n0_
       have HB := n1_
       clear n0_ n1_
       have n0_ := Aside0.mk (blk_drew BK111.out)
       have n1_ := Aside0.mk (below_drew1 HB.out)
       clear BK111
       clear HB
       have BK111 := n0_
       have HB := n1_
       clear n0_ n1_
       refine start_ (n := 31) (S := fun w' => w'.cell? ⟨gb111, 0, none⟩ = some (.int .i64 ((rd_T68 l0 x7_1).f0)) ∧ w'.cell? ⟨gb111, 1, none⟩ = some (.int .i64 ((rd_T68 l0 x7_1).f1)) ∧ w'.cell? ⟨gb111, 2, none⟩ = some (.int .i64 ((rd_T68 l0 x7_1).f2)) ∧ w'.cell? ⟨gb111, 3, none⟩ = some (.bool ((rd_T68 l0 x7_1).f3))) (ds := []) (ar 31 0 []) (by kernel_rfl) rfl rfl ⟨(blk_cell BK111.out 0).trans rfl, (blk_cell BK111.out 1).trans rfl, (blk_cell BK111.out 2).trans rfl, (blk_cell BK111.out 3).trans rfl⟩ (fun hHeld => ?_); refine with_tabW impl_AreCrew.tab4 impl_AreCrew.bits4 (fun HT_ HW_ => ?_)
       generalize w42.drew = w43 at BK111 HB hHeld ⊢
       refine pu_ (i := 0) (N := 12) (v := ?_) (a' := ?_) (ar 31 1 []) rfl rfl (any_of HT_.out (by kernel_rfl)) ?_ ?_ ?_
       rotate_left
       · intro w'
         go_simp
         with_reducible rfl
       rotate_left
       · simp only [puts_]
         rfl
       refine tk_ (i := 1) (N := 13) (v := ?_) (a' := ?_) (ar 31 2 []) rfl rfl (take_ofW HT_.out HW_.out (by kernel_rfl)) ?_ hHeld ?_ ?_
       rotate_left
       · rintro w' ⟨s0, s1, s2, s3⟩
         go_simp
         with_reducible rfl
       rotate_left
       · simp only [puts_]
         rfl
       refine one_ (i := 2) (N := some 14) (ar 31 3 []) rfl rfl (one_of HT_.out (by kernel_rfl)) (by decide) (fun K hK => ?_)
       refine goes_ Try.func56 (by kernel_rfl) rfl #[.int .i64 ((rd_T68 l0 x7_1).f0), .int .i64 1, .int .i64 99] (by rfl) rfl rfl (by (try simp only [am_]); first | done | rfl) ?_
       with_reducible refine (impl_InRange.calls ((rd_T68 l0 x7_1).f0) 1 99 true _ A5.out).mono ?_
       rintro e w' ⟨rfl, ⟨nd, rfl⟩⟩
       refine ⟨_, rfl, ?_⟩
       refine hK.out _ _ ⟨(blk_cell BK111.out 0).trans rfl, (blk_cell BK111.out 1).trans rfl, (blk_cell BK111.out 2).trans rfl, (blk_cell BK111.out 3).trans rfl⟩ (fun hHeld => ?_)
       clear hK K
       refine norm_ (a' := ?_) ?_ ?_
       rotate_left
       · show Act.put _ (some 14) _ = _
         simp only [puts_]
         rfl
       refine pu_ (i := 3) (N := 15) (v := ?_) (a' := ?_) (ar 31 4 []) rfl rfl (any_of HT_.out (by kernel_rfl)) ?_ ?_ ?_
       rotate_left
       · intro w'
         go_simp
         with_reducible rfl
       rotate_left
       · simp only [puts_]
         rfl
       refine pu_ (i := 4) (N := 16) (v := ?_) (a' := ?_) (ar 31 5 []) rfl rfl (any_of HT_.out (by kernel_rfl)) ?_ ?_ ?_
       rotate_left
       · intro w'
         go_simp
         with_reducible rfl
       rotate_left
       · simp only [puts_]
         rfl
       refine pu_ (i := 5) (N := 17) (v := ?_) (a' := ?_) (ar 31 6 []) rfl rfl (any_of HT_.out (by kernel_rfl)) ?_ ?_ ?_
       rotate_left
       · intro w'
         go_simp
         with_reducible rfl
       rotate_left
       · simp only [puts_]
         rfl
       refine pu_ (i := 6) (N := 18) (v := ?_) (a' := ?_) (ar 31 7 []) rfl rfl (any_of HT_.out (by kernel_rfl)) ?_ ?_ ?_
       rotate_left
       · intro w'
         go_simp
         with_reducible rfl
       rotate_left
       · simp only [puts_]
         rfl
       refine pu_ (i := 7) (N := 19) (v := ?_) (a' := ?_) (ar 31 8 []) rfl rfl (any_of HT_.out (by kernel_rfl)) ?_ ?_ ?_
       rotate_left
       · intro w'
         go_simp
         with_reducible rfl
       rotate_left
       · simp only [puts_]
         rfl
       refine pn_ (i := 8) (N := 20) (a' := ?_) (ar 31 9 []) rfl rfl (any_of HT_.out (by kernel_rfl)) ?_ ?_
       rotate_left
       · simp only [puts_]
         rfl
       refine pn_ (i := 9) (N := 21) (a' := ?_) (ar 31 10 []) rfl rfl (any_of HT_.out (by kernel_rfl)) ?_ ?_
       rotate_left
       · simp only [puts_]
         rfl
       refine pn_ (i := 10) (N := 22) (a' := ?_) (ar 31 11 []) rfl rfl (any_of HT_.out (by kernel_rfl)) ?_ ?_
       rotate_left
       · simp only [puts_]
         rfl
       refine pn_ (i := 11) (N := 23) (a' := ?_) (ar 31 12 []) rfl rfl (any_of HT_.out (by kernel_rfl)) ?_ ?_
       rotate_left
       · simp only [puts_]
         rfl
       refine pn_ (i := 12) (N := 24) (a' := ?_) (ar 31 13 []) rfl rfl (any_of HT_.out (by kernel_rfl)) ?_ ?_
       rotate_left
       · simp only [puts_]
         rfl
       refine pn_ (i := 13) (N := 25) (a' := ?_) (ar 31 14 []) rfl rfl (any_of HT_.out (by kernel_rfl)) ?_ ?_
       rotate_left
       · simp only [puts_]
         rfl
       refine pn_ (i := 14) (N := 26) (a' := ?_) (ar 31 15 []) rfl rfl (any_of HT_.out (by kernel_rfl)) ?_ ?_
       rotate_left
       · simp only [puts_]
         rfl
       refine pn_ (i := 15) (N := 27) (a' := ?_) (ar 31 16 []) rfl rfl (any_of HT_.out (by kernel_rfl)) ?_ ?_
       rotate_left
       · simp only [puts_]
         rfl
       refine pn_ (i := 16) (N := 28) (a' := ?_) (ar 31 17 []) rfl rfl (any_of HT_.out (by kernel_rfl)) ?_ ?_
       rotate_left
       · simp only [puts_]
         rfl
       refine pu_ (i := 17) (N := 29) (v := ?_) (a' := ?_) (ar 31 18 []) rfl rfl (any_of HT_.out (by kernel_rfl)) ?_ ?_ ?_
       rotate_left
       · intro w'
         go_simp
         with_reducible rfl
       rotate_left
       · simp only [puts_]
         rfl
       refine pu_ (i := 18) (N := 30) (v := ?_) (a' := ?_) (ar 31 19 []) rfl rfl (any_of HT_.out (by kernel_rfl)) ?_ ?_ ?_
       rotate_left
       · intro w'
         go_simp
         with_reducible rfl
       rotate_left
       · simp only [puts_]
         rfl
       refine pu_ (i := 19) (N := 31) (v := ?_) (a' := ?_) (ar 31 20 []) rfl rfl (any_of HT_.out (by kernel_rfl)) ?_ ?_ ?_
       rotate_left
       · intro w'
         go_simp
         with_reducible rfl
       rotate_left
       · simp only [puts_]
         rfl
       refine pu_ (i := 20) (N := 32) (v := ?_) (a' := ?_) (ar 31 21 []) rfl rfl (any_of HT_.out (by kernel_rfl)) ?_ ?_ ?_
       rotate_left
       · intro w'
         go_simp
         with_reducible rfl
       rotate_left
       · simp only [puts_]
         rfl
       refine tk_ (i := 21) (N := 33) (v := ?_) (a' := ?_) (ar 31 22 []) rfl rfl (take_ofW HT_.out HW_.out (by kernel_rfl)) ?_ hHeld ?_ ?_
       rotate_left
       · rintro w' ⟨s0, s1, s2, s3⟩
         go_simp
         with_reducible rfl
       rotate_left
       · simp only [puts_]
         rfl
       refine one_ (i := 22) (N := some 34) (ar 31 23 []) rfl rfl (one_of HT_.out (by kernel_rfl)) (by decide) (fun K hK => ?_)
       refine goes_ Try.func56 (by kernel_rfl) rfl #[.int .i64 ((rd_T68 l0 x7_1).f1), .int .i64 0, .int .i64 100] (by rfl) rfl rfl (by (try simp only [am_]); first | done | rfl) ?_
       with_reducible refine (impl_InRange.calls ((rd_T68 l0 x7_1).f1) 0 100 true _ A32.out).mono ?_
       rintro e w' ⟨rfl, ⟨nd, rfl⟩⟩
       refine ⟨_, rfl, ?_⟩
       refine hK.out _ _ ⟨(blk_cell BK111.out 0).trans rfl, (blk_cell BK111.out 1).trans rfl, (blk_cell BK111.out 2).trans rfl, (blk_cell BK111.out 3).trans rfl⟩ (fun hHeld => ?_)
       clear hK K
       refine norm_ (a' := ?_) ?_ ?_
       rotate_left
       · show Act.put _ (some 34) _ = _
         simp only [puts_]
         rfl
       refine pu_ (i := 23) (N := 35) (v := ?_) (a' := ?_) (ar 31 24 []) rfl rfl (any_of HT_.out (by kernel_rfl)) ?_ ?_ ?_
       rotate_left
       · intro w'
         go_simp
         with_reducible rfl
       rotate_left
       · simp only [puts_]
         rfl
       refine pu_ (i := 24) (N := 36) (v := ?_) (a' := ?_) (ar 31 25 []) rfl rfl (any_of HT_.out (by kernel_rfl)) ?_ ?_ ?_
       rotate_left
       · intro w'
         go_simp
         with_reducible rfl
       rotate_left
       · simp only [puts_]
         rfl
       refine pu_ (i := 25) (N := 37) (v := ?_) (a' := ?_) (ar 31 26 []) rfl rfl (any_of HT_.out (by kernel_rfl)) ?_ ?_ ?_
       rotate_left
       · intro w'
         go_simp
         with_reducible rfl
       rotate_left
       · simp only [puts_]
         rfl
       refine pu_ (i := 26) (N := 38) (v := ?_) (a' := ?_) (ar 31 27 []) rfl rfl (any_of HT_.out (by kernel_rfl)) ?_ ?_ ?_
       rotate_left
       · intro w'
         go_simp
         with_reducible rfl
       rotate_left
       · simp only [puts_]
         rfl
       refine tk_ (i := 27) (N := 39) (v := ?_) (a' := ?_) (ar 31 28 []) rfl rfl (take_ofW HT_.out HW_.out (by kernel_rfl)) ?_ hHeld ?_ ?_
       rotate_left
       · rintro w' ⟨s0, s1, s2, s3⟩
         go_simp
         with_reducible rfl
       rotate_left
       · simp only [puts_]
         rfl
       refine one_ (i := 28) (N := some 40) (ar 31 29 []) rfl rfl (one_of HT_.out (by kernel_rfl)) (by decide) (fun K hK => ?_)
       refine goes_ Try.func56 (by kernel_rfl) rfl #[.int .i64 ((rd_T68 l0 x7_1).f2), .int .i64 1, .int .i64 10] (by rfl) rfl rfl (by (try simp only [am_]); first | done | rfl) ?_
       with_reducible refine (impl_InRange.calls ((rd_T68 l0 x7_1).f2) 1 10 false _ A34.out).mono ?_
       rintro e w' ⟨rfl, ⟨nd, rfl⟩⟩
       refine ⟨_, rfl, ?_⟩
       refine hK.out _ _ ⟨(blk_cell BK111.out 0).trans rfl, (blk_cell BK111.out 1).trans rfl, (blk_cell BK111.out 2).trans rfl, (blk_cell BK111.out 3).trans rfl⟩ (fun hHeld => ?_)
       clear hK K
       refine norm_ (a' := ?_) ?_ ?_
       rotate_left
       · show Act.put _ (some 40) _ = _
         simp only [puts_]
         rfl
       refine pu_ (i := 29) (N := 41) (v := ?_) (a' := ?_) (ar 31 30 []) rfl rfl (any_of HT_.out (by kernel_rfl)) ?_ ?_ ?_
       rotate_left
       · intro w'
         go_simp
         with_reducible rfl
       rotate_left
       · simp only [puts_]
         rfl
       refine pu_ (i := 30) (N := 42) (v := ?_) (a' := ?_) (ar 31 31 []) rfl rfl (any_of HT_.out (by kernel_rfl)) ?_ ?_ ?_
       rotate_left
       · intro w'
         go_simp
         with_reducible rfl
       rotate_left
       · simp only [puts_]
         rfl
       refine done_ (done_of HT_.out (by kernel_rfl)) ?_
       try go_wp2
       go_ret
       exact ⟨by first | rfl | (simp [errW_none, errW_some] <;> rfl) | (simp [*, errW_none, errW_some] <;> rfl), below_up HB.out⟩
     subst c35
     rw [if_pos rfl] at H
     have H' := Aside0.mk H
     clear H
     have p110 : 0 ≤ (x7_1 : Int) := of_decide_eq_true (by first | (with_reducible assumption) | assumption)
     have q110 : x7_1 < (l0.length : Int) := of_decide_eq_true (by first | (with_reducible assumption) | assumption)
     obtain ⟨ad110, e110, hx110_0, hx110_1, hx110_2, hx110_3⟩ := at_T68 HR0.out x7_1 p110 q110
     cases e110
     replace hx110_0 := (cel HB.out hx110_0 :)
     replace hx110_1 := (cel HB.out hx110_1 :)
     replace hx110_2 := (cel HB.out hx110_2 :)
     replace hx110_3 := (cel HB.out hx110_3 :)
     replace p110 := eq_true p110
     replace q110 := eq_true q110
     try go_wp2_with (first | ((with_reducible refine gate_dst (N := 4) rfl ?_); refine box_event ?hg (N := 4) ?hd (cs := #[.int .i64 0, .int .i64 0, .int .i64 0, .bool false]) (t := 68) ?hr ?_; (case hd => rfl); (case hg => rfl); (case hr => first | (go_simp; done) | (go_simp; rfl)); intro gb111 hg w36 hbox hb; have n0_ := Aside0.mk (below_step (below_up HB.out) hb); have n1_ := Aside0.mk (hbox); have n2_ := Aside0.mk (szle hg HB.out); have n3_ := Aside0.mk (szle hg HB.out); replace HB := n0_; have BK111 := n1_; have GW111 := n2_; have GE111 := n3_; clear n0_ n1_ n2_ n3_; clear hb hbox hg; obtain ⟨hcz37_0, hcz37_1, hcz37_2, hcz37_3⟩ := cells4_ BK111.out; obtain ⟨hfz37_0, hfz37_1, hfz37_2, hfz37_3⟩ := frz4_ BK111.out))
     have n0_ : Aside0 (((((w36.setCell ⟨gb111, 0, none⟩ (.int .i64 ((rd_T68 l0 x7_1).f0))).setCell ⟨gb111, 1, none⟩ (.int .i64 ((rd_T68 l0 x7_1).f1))).setCell ⟨gb111, 2, none⟩ (.int .i64 ((rd_T68 l0 x7_1).f2))).setCell ⟨gb111, 3, none⟩ (.bool ((rd_T68 l0 x7_1).f3))).heap[gb111]? = some (.cells #[.int .i64 ((rd_T68 l0 x7_1).f0), .int .i64 ((rd_T68 l0 x7_1).f1), .int .i64 ((rd_T68 l0 x7_1).f2), .bool ((rd_T68 l0 x7_1).f3)] 68 (0, 0))) := ⟨by (with_reducible repeat (first | refine blk_drewN ?_ _ | refine blk_drew ?_ | refine blk_alloc ?_ _)); refine blk_put (cs := #[.int .i64 ((rd_T68 l0 x7_1).f0), .int .i64 ((rd_T68 l0 x7_1).f1), .int .i64 ((rd_T68 l0 x7_1).f2), .bool false]) ?_ 3 _ rfl; (with_reducible repeat (first | refine blk_drewN ?_ _ | refine blk_drew ?_ | refine blk_alloc ?_ _)); refine blk_put (cs := #[.int .i64 ((rd_T68 l0 x7_1).f0), .int .i64 ((rd_T68 l0 x7_1).f1), .int .i64 0, .bool false]) ?_ 2 _ rfl; (with_reducible repeat (first | refine blk_drewN ?_ _ | refine blk_drew ?_ | refine blk_alloc ?_ _)); refine blk_put (cs := #[.int .i64 ((rd_T68 l0 x7_1).f0), .int .i64 0, .int .i64 0, .bool false]) ?_ 1 _ rfl; (with_reducible repeat (first | refine blk_drewN ?_ _ | refine blk_drew ?_ | refine blk_alloc ?_ _)); refine blk_put (cs := #[.int .i64 0, .int .i64 0, .int .i64 0, .bool false]) ?_ 0 _ rfl; (with_reducible repeat (first | refine blk_drewN ?_ _ | refine blk_drew ?_ | refine blk_alloc ?_ _)); exact BK111.out⟩
     have n1_ : Aside0 (Below w.heap.size w ((((w36.setCell ⟨gb111, 0, none⟩ (.int .i64 ((rd_T68 l0 x7_1).f0))).setCell ⟨gb111, 1, none⟩ (.int .i64 ((rd_T68 l0 x7_1).f1))).setCell ⟨gb111, 2, none⟩ (.int .i64 ((rd_T68 l0 x7_1).f2))).setCell ⟨gb111, 3, none⟩ (.bool ((rd_T68 l0 x7_1).f3)))) := ⟨by repeat (first | (with_reducible first | exact HB.out | apply below_alloc | apply pw_below_drewN | apply below_drew1 | refine below_set ?_ GE111.out) | exact HB.out)⟩
     (try clear BK111)
     (try clear HB)
     generalize ((((w36.setCell ⟨gb111, 0, none⟩ (.int .i64 ((rd_T68 l0 x7_1).f0))).setCell ⟨gb111, 1, none⟩ (.int .i64 ((rd_T68 l0 x7_1).f1))).setCell ⟨gb111, 2, none⟩ (.int .i64 ((rd_T68 l0 x7_1).f2))).setCell ⟨gb111, 3, none⟩ (.bool ((rd_T68 l0 x7_1).f3))) = w38 at n0_ n1_ ⊢
     have BK111 := n0_
     have HB := n1_
     clear n0_ n1_
     have n0_ := Aside0.mk (blk_drew BK111.out)
     have n1_ := Aside0.mk (below_drew1 HB.out)
     clear BK111
     clear HB
     have BK111 := n0_
     have HB := n1_
     clear n0_ n1_
     refine start_ (n := 31) (S := fun w' => w'.cell? ⟨gb111, 0, none⟩ = some (.int .i64 ((rd_T68 l0 x7_1).f0)) ∧ w'.cell? ⟨gb111, 1, none⟩ = some (.int .i64 ((rd_T68 l0 x7_1).f1)) ∧ w'.cell? ⟨gb111, 2, none⟩ = some (.int .i64 ((rd_T68 l0 x7_1).f2)) ∧ w'.cell? ⟨gb111, 3, none⟩ = some (.bool ((rd_T68 l0 x7_1).f3))) (ds := []) (ar 31 0 []) (by kernel_rfl) rfl rfl ⟨(blk_cell BK111.out 0).trans rfl, (blk_cell BK111.out 1).trans rfl, (blk_cell BK111.out 2).trans rfl, (blk_cell BK111.out 3).trans rfl⟩ (fun hHeld => ?_); refine with_tabW impl_AreCrew.tab4 impl_AreCrew.bits4 (fun HT_ HW_ => ?_)
     generalize w38.drew = w39 at BK111 HB hHeld ⊢
     refine pu_ (i := 0) (N := 12) (v := ?_) (a' := ?_) (ar 31 1 []) rfl rfl (any_of HT_.out (by kernel_rfl)) ?_ ?_ ?_
     rotate_left
     · intro w'
       go_simp
       with_reducible rfl
     rotate_left
     · simp only [puts_]
       rfl
     refine tk_ (i := 1) (N := 13) (v := ?_) (a' := ?_) (ar 31 2 []) rfl rfl (take_ofW HT_.out HW_.out (by kernel_rfl)) ?_ hHeld ?_ ?_
     rotate_left
     · rintro w' ⟨s0, s1, s2, s3⟩
       go_simp
       with_reducible rfl
     rotate_left
     · simp only [puts_]
       rfl
     refine one_ (i := 2) (N := some 14) (ar 31 3 []) rfl rfl (one_of HT_.out (by kernel_rfl)) (by decide) (fun K hK => ?_)
     refine goes_ Try.func56 (by kernel_rfl) rfl #[.int .i64 ((rd_T68 l0 x7_1).f0), .int .i64 1, .int .i64 99] (by rfl) rfl rfl (by (try simp only [am_]); first | done | rfl) ?_
     with_reducible refine (impl_InRange.calls ((rd_T68 l0 x7_1).f0) 1 99 true _ A5.out).mono ?_
     rintro e w' ⟨rfl, ⟨nd, rfl⟩⟩
     refine ⟨_, rfl, ?_⟩
     refine hK.out _ _ ⟨(blk_cell BK111.out 0).trans rfl, (blk_cell BK111.out 1).trans rfl, (blk_cell BK111.out 2).trans rfl, (blk_cell BK111.out 3).trans rfl⟩ (fun hHeld => ?_)
     clear hK K
     refine norm_ (a' := ?_) ?_ ?_
     rotate_left
     · show Act.put _ (some 14) _ = _
       simp only [puts_]
       rfl
     refine pu_ (i := 3) (N := 15) (v := ?_) (a' := ?_) (ar 31 4 []) rfl rfl (any_of HT_.out (by kernel_rfl)) ?_ ?_ ?_
     rotate_left
     · intro w'
       go_simp
       with_reducible rfl
     rotate_left
     · simp only [puts_]
       rfl
     refine pu_ (i := 4) (N := 16) (v := ?_) (a' := ?_) (ar 31 5 []) rfl rfl (any_of HT_.out (by kernel_rfl)) ?_ ?_ ?_
     rotate_left
     · intro w'
       go_simp
       with_reducible rfl
     rotate_left
     · simp only [puts_]
       rfl
     refine pu_ (i := 5) (N := 17) (v := ?_) (a' := ?_) (ar 31 6 []) rfl rfl (any_of HT_.out (by kernel_rfl)) ?_ ?_ ?_
     rotate_left
     · intro w'
       go_simp
       with_reducible rfl
     rotate_left
     · simp only [puts_]
       rfl
     refine pu_ (i := 6) (N := 18) (v := ?_) (a' := ?_) (ar 31 7 []) rfl rfl (any_of HT_.out (by kernel_rfl)) ?_ ?_ ?_
     rotate_left
     · intro w'
       go_simp
       with_reducible rfl
     rotate_left
     · simp only [puts_]
       rfl
     refine pu_ (i := 7) (N := 19) (v := ?_) (a' := ?_) (ar 31 8 []) rfl rfl (any_of HT_.out (by kernel_rfl)) ?_ ?_ ?_
     rotate_left
     · intro w'
       go_simp
       with_reducible rfl
     rotate_left
     · simp only [puts_]
       rfl
     refine pn_ (i := 8) (N := 20) (a' := ?_) (ar 31 9 []) rfl rfl (any_of HT_.out (by kernel_rfl)) ?_ ?_
     rotate_left
     · simp only [puts_]
       rfl
     refine pn_ (i := 9) (N := 21) (a' := ?_) (ar 31 10 []) rfl rfl (any_of HT_.out (by kernel_rfl)) ?_ ?_
     rotate_left
     · simp only [puts_]
       rfl
     refine pn_ (i := 10) (N := 22) (a' := ?_) (ar 31 11 []) rfl rfl (any_of HT_.out (by kernel_rfl)) ?_ ?_
     rotate_left
     · simp only [puts_]
       rfl
     refine pn_ (i := 11) (N := 23) (a' := ?_) (ar 31 12 []) rfl rfl (any_of HT_.out (by kernel_rfl)) ?_ ?_
     rotate_left
     · simp only [puts_]
       rfl
     refine pn_ (i := 12) (N := 24) (a' := ?_) (ar 31 13 []) rfl rfl (any_of HT_.out (by kernel_rfl)) ?_ ?_
     rotate_left
     · simp only [puts_]
       rfl
     refine pn_ (i := 13) (N := 25) (a' := ?_) (ar 31 14 []) rfl rfl (any_of HT_.out (by kernel_rfl)) ?_ ?_
     rotate_left
     · simp only [puts_]
       rfl
     refine pn_ (i := 14) (N := 26) (a' := ?_) (ar 31 15 []) rfl rfl (any_of HT_.out (by kernel_rfl)) ?_ ?_
     rotate_left
     · simp only [puts_]
       rfl
     refine pn_ (i := 15) (N := 27) (a' := ?_) (ar 31 16 []) rfl rfl (any_of HT_.out (by kernel_rfl)) ?_ ?_
     rotate_left
     · simp only [puts_]
       rfl
     refine pn_ (i := 16) (N := 28) (a' := ?_) (ar 31 17 []) rfl rfl (any_of HT_.out (by kernel_rfl)) ?_ ?_
     rotate_left
     · simp only [puts_]
       rfl
     refine pu_ (i := 17) (N := 29) (v := ?_) (a' := ?_) (ar 31 18 []) rfl rfl (any_of HT_.out (by kernel_rfl)) ?_ ?_ ?_
     rotate_left
     · intro w'
       go_simp
       with_reducible rfl
     rotate_left
     · simp only [puts_]
       rfl
     refine pu_ (i := 18) (N := 30) (v := ?_) (a' := ?_) (ar 31 19 []) rfl rfl (any_of HT_.out (by kernel_rfl)) ?_ ?_ ?_
     rotate_left
     · intro w'
       go_simp
       with_reducible rfl
     rotate_left
     · simp only [puts_]
       rfl
     refine pu_ (i := 19) (N := 31) (v := ?_) (a' := ?_) (ar 31 20 []) rfl rfl (any_of HT_.out (by kernel_rfl)) ?_ ?_ ?_
     rotate_left
     · intro w'
       go_simp
       with_reducible rfl
     rotate_left
     · simp only [puts_]
       rfl
     refine pu_ (i := 20) (N := 32) (v := ?_) (a' := ?_) (ar 31 21 []) rfl rfl (any_of HT_.out (by kernel_rfl)) ?_ ?_ ?_
     rotate_left
     · intro w'
       go_simp
       with_reducible rfl
     rotate_left
     · simp only [puts_]
       rfl
     refine tk_ (i := 21) (N := 33) (v := ?_) (a' := ?_) (ar 31 22 []) rfl rfl (take_ofW HT_.out HW_.out (by kernel_rfl)) ?_ hHeld ?_ ?_
     rotate_left
     · rintro w' ⟨s0, s1, s2, s3⟩
       go_simp
       with_reducible rfl
     rotate_left
     · simp only [puts_]
       rfl
     refine one_ (i := 22) (N := some 34) (ar 31 23 []) rfl rfl (one_of HT_.out (by kernel_rfl)) (by decide) (fun K hK => ?_)
     refine goes_ Try.func56 (by kernel_rfl) rfl #[.int .i64 ((rd_T68 l0 x7_1).f1), .int .i64 0, .int .i64 100] (by rfl) rfl rfl (by (try simp only [am_]); first | done | rfl) ?_
     with_reducible refine (impl_InRange.calls ((rd_T68 l0 x7_1).f1) 0 100 true _ A32.out).mono ?_
     rintro e w' ⟨rfl, ⟨nd, rfl⟩⟩
     refine ⟨_, rfl, ?_⟩
     refine hK.out _ _ ⟨(blk_cell BK111.out 0).trans rfl, (blk_cell BK111.out 1).trans rfl, (blk_cell BK111.out 2).trans rfl, (blk_cell BK111.out 3).trans rfl⟩ (fun hHeld => ?_)
     clear hK K
     refine norm_ (a' := ?_) ?_ ?_
     rotate_left
     · show Act.put _ (some 34) _ = _
       simp only [puts_]
       rfl
     refine pu_ (i := 23) (N := 35) (v := ?_) (a' := ?_) (ar 31 24 []) rfl rfl (any_of HT_.out (by kernel_rfl)) ?_ ?_ ?_
     rotate_left
     · intro w'
       go_simp
       with_reducible rfl
     rotate_left
     · simp only [puts_]
       rfl
     refine pu_ (i := 24) (N := 36) (v := ?_) (a' := ?_) (ar 31 25 []) rfl rfl (any_of HT_.out (by kernel_rfl)) ?_ ?_ ?_
     rotate_left
     · intro w'
       go_simp
       with_reducible rfl
     rotate_left
     · simp only [puts_]
       rfl
     refine pu_ (i := 25) (N := 37) (v := ?_) (a' := ?_) (ar 31 26 []) rfl rfl (any_of HT_.out (by kernel_rfl)) ?_ ?_ ?_
     rotate_left
     · intro w'
       go_simp
       with_reducible rfl
     rotate_left
     · simp only [puts_]
       rfl
     refine pu_ (i := 26) (N := 38) (v := ?_) (a' := ?_) (ar 31 27 []) rfl rfl (any_of HT_.out (by kernel_rfl)) ?_ ?_ ?_
     rotate_left
     · intro w'
       go_simp
       with_reducible rfl
     rotate_left
     · simp only [puts_]
       rfl
     refine tk_ (i := 27) (N := 39) (v := ?_) (a' := ?_) (ar 31 28 []) rfl rfl (take_ofW HT_.out HW_.out (by kernel_rfl)) ?_ hHeld ?_ ?_
     rotate_left
     · rintro w' ⟨s0, s1, s2, s3⟩
       go_simp
       with_reducible rfl
     rotate_left
     · simp only [puts_]
       rfl
     refine one_ (i := 28) (N := some 40) (ar 31 29 []) rfl rfl (one_of HT_.out (by kernel_rfl)) (by decide) (fun K hK => ?_)
     refine goes_ Try.func56 (by kernel_rfl) rfl #[.int .i64 ((rd_T68 l0 x7_1).f2), .int .i64 1, .int .i64 10] (by rfl) rfl rfl (by (try simp only [am_]); first | done | rfl) ?_
     with_reducible refine (impl_InRange.calls ((rd_T68 l0 x7_1).f2) 1 10 true _ A34.out).mono ?_
     rintro e w' ⟨rfl, ⟨nd, rfl⟩⟩
     refine ⟨_, rfl, ?_⟩
     refine hK.out _ _ ⟨(blk_cell BK111.out 0).trans rfl, (blk_cell BK111.out 1).trans rfl, (blk_cell BK111.out 2).trans rfl, (blk_cell BK111.out 3).trans rfl⟩ (fun hHeld => ?_)
     clear hK K
     refine norm_ (a' := ?_) ?_ ?_
     rotate_left
     · show Act.put _ (some 40) _ = _
       simp only [puts_]
       rfl
     refine pu_ (i := 29) (N := 41) (v := ?_) (a' := ?_) (ar 31 30 []) rfl rfl (any_of HT_.out (by kernel_rfl)) ?_ ?_ ?_
     rotate_left
     · intro w'
       go_simp
       with_reducible rfl
     rotate_left
     · simp only [puts_]
       rfl
     refine pu_ (i := 30) (N := 42) (v := ?_) (a' := ?_) (ar 31 31 []) rfl rfl (any_of HT_.out (by kernel_rfl)) ?_ ?_ ?_
     rotate_left
     · intro w'
       go_simp
       with_reducible rfl
     rotate_left
     · simp only [puts_]
       rfl
     refine done_ (done_of HT_.out (by kernel_rfl)) ?_
     try go_wp2
     go_roundg k1
     case measure => have := HK1.out; omega
     case rel => exact ⟨(wrap64 (x7_1 + 1)), (by first | rfl | (simp; done) | (simp [*]; done)), H', ⟨by have := HK1.out; omega⟩, ⟨below_up HB.out⟩⟩
   rw [if_pos c7] at H
   have c7b0 : decide (0 < x7_1) = true := decide_eq_true c7
   clear c7
   obtain ⟨ji8, hji8⟩ : ∃ j_ : Int, (wrap64 (x7_1 - 1)) = j_ := ⟨_, rfl⟩
   replace H : (if 0 ≤ (ji8) then (if (ji8) < (l0.length : Int) then (if ((rd_T68 l0 x7_1).f0) ≤ ((rd_T68 l0 (ji8)).f0) then (some false) else ((impl_InRange.f ((rd_T68 l0 x7_1).f1) 0 100).bind fun t114 => (if t114 = true then ((impl_InRange.f ((rd_T68 l0 x7_1).f2) 1 10).bind fun t115 => (if t115 = true then (impl_AreCrew.l0 k1 l0 l0 (l0.length : Int) (wrap64 (x7_1 + 1))) else (some false))) else (some false)))) else (none)) else (none)) = some r := by first | (rw [hji8] at H; exact H) | (simp only [hji8] at H ⊢; exact H)
   (try rw [hji8] at A5)
   have hji8w : (IntKind.i64.wrap (x7_1 - 1)) = ji8 := (i64_w _).trans hji8
   by_cases c9 : 0 ≤ (ji8)
   rotate_left
   · rw [if_neg c9] at H
     exact absurd H (by simp)
   rw [if_pos c9] at H
   have c9b0 : decide (0 ≤ (ji8)) = true := decide_eq_true c9
   clear c9
   by_cases c10 : (ji8) < (l0.length : Int)
   rotate_left
   · rw [if_neg c10] at H
     exact absurd H (by simp)
   rw [if_pos c10] at H
   have c10b0 : decide ((ji8) < (l0.length : Int)) = true := decide_eq_true c10
   clear c10
   by_cases c11 : ((rd_T68 l0 x7_1).f0) ≤ ((rd_T68 l0 (ji8)).f0)
   · rw [if_pos c11] at H
     have c11b0 : decide (((rd_T68 l0 x7_1).f0) ≤ ((rd_T68 l0 (ji8)).f0)) = true := decide_eq_true c11
     clear c11
     obtain rfl := Option.some.inj H
     have p110 : 0 ≤ (x7_1 : Int) := of_decide_eq_true (by first | (with_reducible assumption) | assumption)
     have q110 : x7_1 < (l0.length : Int) := of_decide_eq_true (by first | (with_reducible assumption) | assumption)
     obtain ⟨ad110, e110, hx110_0, hx110_1, hx110_2, hx110_3⟩ := at_T68 HR0.out x7_1 p110 q110
     cases e110
     replace hx110_0 := (cel HB.out hx110_0 :)
     replace hx110_1 := (cel HB.out hx110_1 :)
     replace hx110_2 := (cel HB.out hx110_2 :)
     replace hx110_3 := (cel HB.out hx110_3 :)
     replace p110 := eq_true p110
     replace q110 := eq_true q110
     try go_wp2_with (first | ((with_reducible refine gate_dst (N := 4) rfl ?_); refine box_event ?hg (N := 4) ?hd (cs := #[.int .i64 0, .int .i64 0, .int .i64 0, .bool false]) (t := 68) ?hr ?_; (case hd => rfl); (case hg => rfl); (case hr => first | (go_simp; done) | (go_simp; rfl)); intro gb111 hg w12 hbox hb; have n0_ := Aside0.mk (below_step (below_up HB.out) hb); have n1_ := Aside0.mk (hbox); have n2_ := Aside0.mk (szle hg HB.out); have n3_ := Aside0.mk (szle hg HB.out); replace HB := n0_; have BK111 := n1_; have GW111 := n2_; have GE111 := n3_; clear n0_ n1_ n2_ n3_; clear hb hbox hg; obtain ⟨hcz13_0, hcz13_1, hcz13_2, hcz13_3⟩ := cells4_ BK111.out; obtain ⟨hfz13_0, hfz13_1, hfz13_2, hfz13_3⟩ := frz4_ BK111.out))
     have n0_ : Aside0 (((((w12.setCell ⟨gb111, 0, none⟩ (.int .i64 ((rd_T68 l0 x7_1).f0))).setCell ⟨gb111, 1, none⟩ (.int .i64 ((rd_T68 l0 x7_1).f1))).setCell ⟨gb111, 2, none⟩ (.int .i64 ((rd_T68 l0 x7_1).f2))).setCell ⟨gb111, 3, none⟩ (.bool ((rd_T68 l0 x7_1).f3))).heap[gb111]? = some (.cells #[.int .i64 ((rd_T68 l0 x7_1).f0), .int .i64 ((rd_T68 l0 x7_1).f1), .int .i64 ((rd_T68 l0 x7_1).f2), .bool ((rd_T68 l0 x7_1).f3)] 68 (0, 0))) := ⟨by (with_reducible repeat (first | refine blk_drewN ?_ _ | refine blk_drew ?_ | refine blk_alloc ?_ _)); refine blk_put (cs := #[.int .i64 ((rd_T68 l0 x7_1).f0), .int .i64 ((rd_T68 l0 x7_1).f1), .int .i64 ((rd_T68 l0 x7_1).f2), .bool false]) ?_ 3 _ rfl; (with_reducible repeat (first | refine blk_drewN ?_ _ | refine blk_drew ?_ | refine blk_alloc ?_ _)); refine blk_put (cs := #[.int .i64 ((rd_T68 l0 x7_1).f0), .int .i64 ((rd_T68 l0 x7_1).f1), .int .i64 0, .bool false]) ?_ 2 _ rfl; (with_reducible repeat (first | refine blk_drewN ?_ _ | refine blk_drew ?_ | refine blk_alloc ?_ _)); refine blk_put (cs := #[.int .i64 ((rd_T68 l0 x7_1).f0), .int .i64 0, .int .i64 0, .bool false]) ?_ 1 _ rfl; (with_reducible repeat (first | refine blk_drewN ?_ _ | refine blk_drew ?_ | refine blk_alloc ?_ _)); refine blk_put (cs := #[.int .i64 0, .int .i64 0, .int .i64 0, .bool false]) ?_ 0 _ rfl; (with_reducible repeat (first | refine blk_drewN ?_ _ | refine blk_drew ?_ | refine blk_alloc ?_ _)); exact BK111.out⟩
     have n1_ : Aside0 (Below w.heap.size w ((((w12.setCell ⟨gb111, 0, none⟩ (.int .i64 ((rd_T68 l0 x7_1).f0))).setCell ⟨gb111, 1, none⟩ (.int .i64 ((rd_T68 l0 x7_1).f1))).setCell ⟨gb111, 2, none⟩ (.int .i64 ((rd_T68 l0 x7_1).f2))).setCell ⟨gb111, 3, none⟩ (.bool ((rd_T68 l0 x7_1).f3)))) := ⟨by repeat (first | (with_reducible first | exact HB.out | apply below_alloc | apply pw_below_drewN | apply below_drew1 | refine below_set ?_ GE111.out) | exact HB.out)⟩
     (try clear BK111)
     (try clear HB)
     generalize ((((w12.setCell ⟨gb111, 0, none⟩ (.int .i64 ((rd_T68 l0 x7_1).f0))).setCell ⟨gb111, 1, none⟩ (.int .i64 ((rd_T68 l0 x7_1).f1))).setCell ⟨gb111, 2, none⟩ (.int .i64 ((rd_T68 l0 x7_1).f2))).setCell ⟨gb111, 3, none⟩ (.bool ((rd_T68 l0 x7_1).f3))) = w14 at n0_ n1_ ⊢
     have BK111 := n0_
     have HB := n1_
     clear n0_ n1_
     have n0_ := Aside0.mk (blk_drew BK111.out)
     have n1_ := Aside0.mk (below_drew1 HB.out)
     clear BK111
     clear HB
     have BK111 := n0_
     have HB := n1_
     clear n0_ n1_
     have p113 : 0 ≤ ((ji8) : Int) := of_decide_eq_true (by first | (with_reducible assumption) | assumption)
     have q113 : (ji8) < (l0.length : Int) := of_decide_eq_true (by first | (with_reducible assumption) | assumption)
     obtain ⟨ad113, e113, hx113_0, hx113_1, hx113_2, hx113_3⟩ := at_T68 HR0.out (ji8) p113 q113
     have hw113_3 := hx113_3
     have hw113_2 := hx113_2
     have hw113_1 := hx113_1
     have hw113_0 := hx113_0
     obtain rfl : ad110 = ad113 := (by injection e113)
     replace hx113_0 := (cel HB.out hx113_0 :)
     replace hx113_1 := (cel HB.out hx113_1 :)
     replace hx113_2 := (cel HB.out hx113_2 :)
     replace hx113_3 := (cel HB.out hx113_3 :)
     replace p113 := eq_true p113
     replace q113 := eq_true q113
     refine start_ (n := 31) (S := fun w' => w'.cell? ⟨gb111, 0, none⟩ = some (.int .i64 ((rd_T68 l0 x7_1).f0)) ∧ w'.cell? ⟨gb111, 1, none⟩ = some (.int .i64 ((rd_T68 l0 x7_1).f1)) ∧ w'.cell? ⟨gb111, 2, none⟩ = some (.int .i64 ((rd_T68 l0 x7_1).f2)) ∧ w'.cell? ⟨gb111, 3, none⟩ = some (.bool ((rd_T68 l0 x7_1).f3)) ∧ w'.cell? (ad110.add (((ji8)).toNat * 4)) = some (.int .i64 ((rd_T68 l0 (ji8)).f0)) ∧ w'.cell? ⟨(ad110.add (((ji8)).toNat * 4)).block, (ad110.add (((ji8)).toNat * 4)).off + 1, none⟩ = some (.int .i64 ((rd_T68 l0 (ji8)).f1)) ∧ w'.cell? ⟨(ad110.add (((ji8)).toNat * 4)).block, (ad110.add (((ji8)).toNat * 4)).off + 2, none⟩ = some (.int .i64 ((rd_T68 l0 (ji8)).f2)) ∧ w'.cell? ⟨(ad110.add (((ji8)).toNat * 4)).block, (ad110.add (((ji8)).toNat * 4)).off + 3, none⟩ = some (.bool ((rd_T68 l0 (ji8)).f3))) (ds := []) (ar 31 0 []) (by kernel_rfl) rfl rfl ⟨(blk_cell BK111.out 0).trans rfl, (blk_cell BK111.out 1).trans rfl, (blk_cell BK111.out 2).trans rfl, (blk_cell BK111.out 3).trans rfl, ((cel HB.out hw113_0 :)), ((cel HB.out hw113_1 :)), ((cel HB.out hw113_2 :)), ((cel HB.out hw113_3 :))⟩ (fun hHeld => ?_); refine with_tabW impl_AreCrew.tab4 impl_AreCrew.bits4 (fun HT_ HW_ => ?_)
     generalize w14.drew = w15 at BK111 HB hx113_0 hx113_1 hx113_2 hx113_3 hHeld ⊢
     refine pu_ (i := 0) (N := 12) (v := ?_) (a' := ?_) (ar 31 1 []) rfl rfl (any_of HT_.out (by kernel_rfl)) ?_ ?_ ?_
     rotate_left
     · intro w'
       go_simp
       with_reducible rfl
     rotate_left
     · simp only [puts_]
       rfl
     refine tk_ (i := 1) (N := 13) (v := ?_) (a' := ?_) (ar 31 2 []) rfl rfl (take_ofW HT_.out HW_.out (by kernel_rfl)) ?_ hHeld ?_ ?_
     rotate_left
     · rintro w' ⟨s0, s1, s2, s3, s4, s5, s6, s7⟩
       go_simp
       with_reducible rfl
     rotate_left
     · simp only [puts_]
       rfl
     refine one_ (i := 2) (N := some 14) (ar 31 3 []) rfl rfl (one_of HT_.out (by kernel_rfl)) (by decide) (fun K hK => ?_)
     refine goes_ Try.func56 (by kernel_rfl) rfl #[.int .i64 ((rd_T68 l0 x7_1).f0), .int .i64 1, .int .i64 99] (by rfl) rfl rfl (by (try simp only [am_]); first | done | rfl) ?_
     with_reducible refine (impl_InRange.calls ((rd_T68 l0 x7_1).f0) 1 99 true _ A5.out).mono ?_
     rintro e w' ⟨rfl, ⟨nd, rfl⟩⟩
     refine ⟨_, rfl, ?_⟩
     refine hK.out _ _ ⟨(blk_cell BK111.out 0).trans rfl, (blk_cell BK111.out 1).trans rfl, (blk_cell BK111.out 2).trans rfl, (blk_cell BK111.out 3).trans rfl, ((cel HB.out hw113_0 :)), ((cel HB.out hw113_1 :)), ((cel HB.out hw113_2 :)), ((cel HB.out hw113_3 :))⟩ (fun hHeld => ?_)
     clear hK K
     refine norm_ (a' := ?_) ?_ ?_
     rotate_left
     · show Act.put _ (some 14) _ = _
       simp only [puts_]
       rfl
     refine pu_ (i := 3) (N := 15) (v := ?_) (a' := ?_) (ar 31 4 []) rfl rfl (any_of HT_.out (by kernel_rfl)) ?_ ?_ ?_
     rotate_left
     · intro w'
       go_simp
       with_reducible rfl
     rotate_left
     · simp only [puts_]
       rfl
     refine pu_ (i := 4) (N := 16) (v := ?_) (a' := ?_) (ar 31 5 []) rfl rfl (any_of HT_.out (by kernel_rfl)) ?_ ?_ ?_
     rotate_left
     · intro w'
       go_simp
       with_reducible rfl
     rotate_left
     · simp only [puts_]
       rfl
     refine pu_ (i := 5) (N := 17) (v := ?_) (a' := ?_) (ar 31 6 []) rfl rfl (any_of HT_.out (by kernel_rfl)) ?_ ?_ ?_
     rotate_left
     · intro w'
       go_simp
       with_reducible rfl
     rotate_left
     · simp only [puts_]
       rfl
     refine pu_ (i := 6) (N := 18) (v := ?_) (a' := ?_) (ar 31 7 []) rfl rfl (any_of HT_.out (by kernel_rfl)) ?_ ?_ ?_
     rotate_left
     · intro w'
       go_simp
       with_reducible rfl
     rotate_left
     · simp only [puts_]
       rfl
     refine pu_ (i := 7) (N := 19) (v := ?_) (a' := ?_) (ar 31 8 []) rfl rfl (any_of HT_.out (by kernel_rfl)) ?_ ?_ ?_
     rotate_left
     · intro w'
       go_simp
       with_reducible rfl
     rotate_left
     · simp only [puts_]
       rfl
     refine pu_ (i := 8) (N := 20) (v := ?_) (a' := ?_) (ar 31 9 []) rfl rfl (any_of HT_.out (by kernel_rfl)) ?_ ?_ ?_
     rotate_left
     · intro w'
       go_simp
       with_reducible rfl
     rotate_left
     · simp only [puts_]
       rfl
     refine pu_ (i := 10) (N := 22) (v := ?_) (a' := ?_) (ar 31 11 [9]) rfl rfl (any_of HT_.out (by kernel_rfl)) ?_ ?_ ?_
     rotate_left
     · intro w'
       go_simp
       with_reducible rfl
     rotate_left
     · simp only [puts_]
       rfl
     refine pu_ (i := 11) (N := 23) (v := ?_) (a' := ?_) (ar 31 12 [9]) rfl rfl (any_of HT_.out (by kernel_rfl)) ?_ ?_ ?_
     rotate_left
     · intro w'
       go_simp
       with_reducible rfl
     rotate_left
     · simp only [puts_]
       rfl
     refine pu_ (i := 12) (N := 24) (v := ?_) (a' := ?_) (ar 31 13 [9]) rfl rfl (any_of HT_.out (by kernel_rfl)) ?_ ?_ ?_
     rotate_left
     · intro w'
       go_simp
       with_reducible rfl
     rotate_left
     · simp only [puts_]
       rfl
     refine pu_ (i := 13) (N := 25) (v := ?_) (a' := ?_) (ar 31 14 [9]) rfl rfl (any_of HT_.out (by kernel_rfl)) ?_ ?_ ?_
     rotate_left
     · intro w'
       go_simp
       with_reducible rfl
     rotate_left
     · simp only [puts_]
       rfl
     refine pu_ (i := 14) (N := 26) (v := ?_) (a' := ?_) (ar 31 15 [9]) rfl rfl (any_of HT_.out (by kernel_rfl)) ?_ ?_ ?_
     rotate_left
     · intro w'
       go_simp
       with_reducible rfl
     rotate_left
     · simp only [puts_]
       rfl
     refine tk_ (i := 9) (N := 21) (v := ?_) (a' := ?_) (ar 31 15 []) rfl rfl (take_ofW HT_.out HW_.out (by kernel_rfl)) ?_ hHeld ?_ ?_
     rotate_left
     · rintro w' ⟨s0, s1, s2, s3, s4, s5, s6, s7⟩
       go_simp
       with_reducible rfl
     rotate_left
     · simp only [puts_]
       rfl
     refine tk_ (i := 15) (N := 27) (v := ?_) (a' := ?_) (ar 31 16 []) rfl rfl (take_ofW HT_.out HW_.out (by kernel_rfl)) ?_ hHeld ?_ ?_
     rotate_left
     · rintro w' ⟨s0, s1, s2, s3, s4, s5, s6, s7⟩
       go_simp
       with_reducible rfl
     rotate_left
     · simp only [puts_]
       rfl
     refine pu_ (i := 16) (N := 28) (v := ?_) (a' := ?_) (ar 31 17 []) rfl rfl (any_of HT_.out (by kernel_rfl)) ?_ ?_ ?_
     rotate_left
     · intro w'
       go_simp
       with_reducible rfl
     rotate_left
     · simp only [puts_]
       rfl
     refine pu_ (i := 17) (N := 29) (v := ?_) (a' := ?_) (ar 31 18 []) rfl rfl (any_of HT_.out (by kernel_rfl)) ?_ ?_ ?_
     rotate_left
     · intro w'
       go_simp
       with_reducible rfl
     rotate_left
     · simp only [puts_]
       rfl
     refine pu_ (i := 18) (N := 30) (v := ?_) (a' := ?_) (ar 31 19 []) rfl rfl (any_of HT_.out (by kernel_rfl)) ?_ ?_ ?_
     rotate_left
     · intro w'
       go_simp
       with_reducible rfl
     rotate_left
     · simp only [puts_]
       rfl
     refine pu_ (i := 19) (N := 31) (v := ?_) (a' := ?_) (ar 31 20 []) rfl rfl (any_of HT_.out (by kernel_rfl)) ?_ ?_ ?_
     rotate_left
     · intro w'
       go_simp
       with_reducible rfl
     rotate_left
     · simp only [puts_]
       rfl
     refine pn_ (i := 20) (N := 32) (a' := ?_) (ar 31 21 []) rfl rfl (any_of HT_.out (by kernel_rfl)) ?_ ?_
     rotate_left
     · simp only [puts_]
       rfl
     refine pn_ (i := 21) (N := 33) (a' := ?_) (ar 31 22 []) rfl rfl (any_of HT_.out (by kernel_rfl)) ?_ ?_
     rotate_left
     · simp only [puts_]
       rfl
     refine pn_ (i := 22) (N := 34) (a' := ?_) (ar 31 23 []) rfl rfl (any_of HT_.out (by kernel_rfl)) ?_ ?_
     rotate_left
     · simp only [puts_]
       rfl
     refine pn_ (i := 23) (N := 35) (a' := ?_) (ar 31 24 []) rfl rfl (any_of HT_.out (by kernel_rfl)) ?_ ?_
     rotate_left
     · simp only [puts_]
       rfl
     refine pu_ (i := 24) (N := 36) (v := ?_) (a' := ?_) (ar 31 25 []) rfl rfl (any_of HT_.out (by kernel_rfl)) ?_ ?_ ?_
     rotate_left
     · intro w'
       go_simp
       with_reducible rfl
     rotate_left
     · simp only [puts_]
       rfl
     refine pu_ (i := 25) (N := 37) (v := ?_) (a' := ?_) (ar 31 26 []) rfl rfl (any_of HT_.out (by kernel_rfl)) ?_ ?_ ?_
     rotate_left
     · intro w'
       go_simp
       with_reducible rfl
     rotate_left
     · simp only [puts_]
       rfl
     refine pn_ (i := 26) (N := 38) (a' := ?_) (ar 31 27 []) rfl rfl (any_of HT_.out (by kernel_rfl)) ?_ ?_
     rotate_left
     · simp only [puts_]
       rfl
     refine pn_ (i := 27) (N := 39) (a' := ?_) (ar 31 28 []) rfl rfl (any_of HT_.out (by kernel_rfl)) ?_ ?_
     rotate_left
     · simp only [puts_]
       rfl
     refine pn_ (i := 28) (N := 40) (a' := ?_) (ar 31 29 []) rfl rfl (any_of HT_.out (by kernel_rfl)) ?_ ?_
     rotate_left
     · simp only [puts_]
       rfl
     refine pn_ (i := 29) (N := 41) (a' := ?_) (ar 31 30 []) rfl rfl (any_of HT_.out (by kernel_rfl)) ?_ ?_
     rotate_left
     · simp only [puts_]
       rfl
     refine pu_ (i := 30) (N := 42) (v := ?_) (a' := ?_) (ar 31 31 []) rfl rfl (any_of HT_.out (by kernel_rfl)) ?_ ?_ ?_
     rotate_left
     · intro w'
       go_simp
       with_reducible rfl
     rotate_left
     · simp only [puts_]
       rfl
     refine done_ (done_of HT_.out (by kernel_rfl)) ?_
     try go_wp2
     go_ret
     exact ⟨by first | rfl | (simp [errW_none, errW_some] <;> rfl) | (simp only [← hji8]; first | rfl | (simp [errW_none, errW_some] <;> rfl)) | (simp [*, errW_none, errW_some] <;> rfl), below_up HB.out⟩
   rw [if_neg c11] at H
   have c11b0 : decide (((rd_T68 l0 x7_1).f0) ≤ ((rd_T68 l0 (ji8)).f0)) = false := decide_eq_false c11
   clear c11
   replace H := Option.bind_eq_some_iff.mp H
   obtain ⟨t114, A160, H⟩ := H
   have A16 := Aside0.mk A160
   clear A160
   by_cases c17 : t114 = true
   rotate_left
   · replace c17 := Bool.eq_false_iff.mpr c17
     subst c17
     rw [if_neg (show ¬ (false = true) by decide)] at H
     obtain rfl := Option.some.inj H
     have p110 : 0 ≤ (x7_1 : Int) := of_decide_eq_true (by first | (with_reducible assumption) | assumption)
     have q110 : x7_1 < (l0.length : Int) := of_decide_eq_true (by first | (with_reducible assumption) | assumption)
     obtain ⟨ad110, e110, hx110_0, hx110_1, hx110_2, hx110_3⟩ := at_T68 HR0.out x7_1 p110 q110
     cases e110
     replace hx110_0 := (cel HB.out hx110_0 :)
     replace hx110_1 := (cel HB.out hx110_1 :)
     replace hx110_2 := (cel HB.out hx110_2 :)
     replace hx110_3 := (cel HB.out hx110_3 :)
     replace p110 := eq_true p110
     replace q110 := eq_true q110
     try go_wp2_with (first | ((with_reducible refine gate_dst (N := 4) rfl ?_); refine box_event ?hg (N := 4) ?hd (cs := #[.int .i64 0, .int .i64 0, .int .i64 0, .bool false]) (t := 68) ?hr ?_; (case hd => rfl); (case hg => rfl); (case hr => first | (go_simp; done) | (go_simp; rfl)); intro gb111 hg w28 hbox hb; have n0_ := Aside0.mk (below_step (below_up HB.out) hb); have n1_ := Aside0.mk (hbox); have n2_ := Aside0.mk (szle hg HB.out); have n3_ := Aside0.mk (szle hg HB.out); replace HB := n0_; have BK111 := n1_; have GW111 := n2_; have GE111 := n3_; clear n0_ n1_ n2_ n3_; clear hb hbox hg; obtain ⟨hcz29_0, hcz29_1, hcz29_2, hcz29_3⟩ := cells4_ BK111.out; obtain ⟨hfz29_0, hfz29_1, hfz29_2, hfz29_3⟩ := frz4_ BK111.out))
     have n0_ : Aside0 (((((w28.setCell ⟨gb111, 0, none⟩ (.int .i64 ((rd_T68 l0 x7_1).f0))).setCell ⟨gb111, 1, none⟩ (.int .i64 ((rd_T68 l0 x7_1).f1))).setCell ⟨gb111, 2, none⟩ (.int .i64 ((rd_T68 l0 x7_1).f2))).setCell ⟨gb111, 3, none⟩ (.bool ((rd_T68 l0 x7_1).f3))).heap[gb111]? = some (.cells #[.int .i64 ((rd_T68 l0 x7_1).f0), .int .i64 ((rd_T68 l0 x7_1).f1), .int .i64 ((rd_T68 l0 x7_1).f2), .bool ((rd_T68 l0 x7_1).f3)] 68 (0, 0))) := ⟨by (with_reducible repeat (first | refine blk_drewN ?_ _ | refine blk_drew ?_ | refine blk_alloc ?_ _)); refine blk_put (cs := #[.int .i64 ((rd_T68 l0 x7_1).f0), .int .i64 ((rd_T68 l0 x7_1).f1), .int .i64 ((rd_T68 l0 x7_1).f2), .bool false]) ?_ 3 _ rfl; (with_reducible repeat (first | refine blk_drewN ?_ _ | refine blk_drew ?_ | refine blk_alloc ?_ _)); refine blk_put (cs := #[.int .i64 ((rd_T68 l0 x7_1).f0), .int .i64 ((rd_T68 l0 x7_1).f1), .int .i64 0, .bool false]) ?_ 2 _ rfl; (with_reducible repeat (first | refine blk_drewN ?_ _ | refine blk_drew ?_ | refine blk_alloc ?_ _)); refine blk_put (cs := #[.int .i64 ((rd_T68 l0 x7_1).f0), .int .i64 0, .int .i64 0, .bool false]) ?_ 1 _ rfl; (with_reducible repeat (first | refine blk_drewN ?_ _ | refine blk_drew ?_ | refine blk_alloc ?_ _)); refine blk_put (cs := #[.int .i64 0, .int .i64 0, .int .i64 0, .bool false]) ?_ 0 _ rfl; (with_reducible repeat (first | refine blk_drewN ?_ _ | refine blk_drew ?_ | refine blk_alloc ?_ _)); exact BK111.out⟩
     have n1_ : Aside0 (Below w.heap.size w ((((w28.setCell ⟨gb111, 0, none⟩ (.int .i64 ((rd_T68 l0 x7_1).f0))).setCell ⟨gb111, 1, none⟩ (.int .i64 ((rd_T68 l0 x7_1).f1))).setCell ⟨gb111, 2, none⟩ (.int .i64 ((rd_T68 l0 x7_1).f2))).setCell ⟨gb111, 3, none⟩ (.bool ((rd_T68 l0 x7_1).f3)))) := ⟨by repeat (first | (with_reducible first | exact HB.out | apply below_alloc | apply pw_below_drewN | apply below_drew1 | refine below_set ?_ GE111.out) | exact HB.out)⟩
     (try clear BK111)
     (try clear HB)
     generalize ((((w28.setCell ⟨gb111, 0, none⟩ (.int .i64 ((rd_T68 l0 x7_1).f0))).setCell ⟨gb111, 1, none⟩ (.int .i64 ((rd_T68 l0 x7_1).f1))).setCell ⟨gb111, 2, none⟩ (.int .i64 ((rd_T68 l0 x7_1).f2))).setCell ⟨gb111, 3, none⟩ (.bool ((rd_T68 l0 x7_1).f3))) = w30 at n0_ n1_ ⊢
     have BK111 := n0_
     have HB := n1_
     clear n0_ n1_
     have n0_ := Aside0.mk (blk_drew BK111.out)
     have n1_ := Aside0.mk (below_drew1 HB.out)
     clear BK111
     clear HB
     have BK111 := n0_
     have HB := n1_
     clear n0_ n1_
     have p113 : 0 ≤ ((ji8) : Int) := of_decide_eq_true (by first | (with_reducible assumption) | assumption)
     have q113 : (ji8) < (l0.length : Int) := of_decide_eq_true (by first | (with_reducible assumption) | assumption)
     obtain ⟨ad113, e113, hx113_0, hx113_1, hx113_2, hx113_3⟩ := at_T68 HR0.out (ji8) p113 q113
     have hw113_3 := hx113_3
     have hw113_2 := hx113_2
     have hw113_1 := hx113_1
     have hw113_0 := hx113_0
     obtain rfl : ad110 = ad113 := (by injection e113)
     replace hx113_0 := (cel HB.out hx113_0 :)
     replace hx113_1 := (cel HB.out hx113_1 :)
     replace hx113_2 := (cel HB.out hx113_2 :)
     replace hx113_3 := (cel HB.out hx113_3 :)
     replace p113 := eq_true p113
     replace q113 := eq_true q113
     refine start_ (n := 31) (S := fun w' => w'.cell? ⟨gb111, 0, none⟩ = some (.int .i64 ((rd_T68 l0 x7_1).f0)) ∧ w'.cell? ⟨gb111, 1, none⟩ = some (.int .i64 ((rd_T68 l0 x7_1).f1)) ∧ w'.cell? ⟨gb111, 2, none⟩ = some (.int .i64 ((rd_T68 l0 x7_1).f2)) ∧ w'.cell? ⟨gb111, 3, none⟩ = some (.bool ((rd_T68 l0 x7_1).f3)) ∧ w'.cell? (ad110.add (((ji8)).toNat * 4)) = some (.int .i64 ((rd_T68 l0 (ji8)).f0)) ∧ w'.cell? ⟨(ad110.add (((ji8)).toNat * 4)).block, (ad110.add (((ji8)).toNat * 4)).off + 1, none⟩ = some (.int .i64 ((rd_T68 l0 (ji8)).f1)) ∧ w'.cell? ⟨(ad110.add (((ji8)).toNat * 4)).block, (ad110.add (((ji8)).toNat * 4)).off + 2, none⟩ = some (.int .i64 ((rd_T68 l0 (ji8)).f2)) ∧ w'.cell? ⟨(ad110.add (((ji8)).toNat * 4)).block, (ad110.add (((ji8)).toNat * 4)).off + 3, none⟩ = some (.bool ((rd_T68 l0 (ji8)).f3))) (ds := []) (ar 31 0 []) (by kernel_rfl) rfl rfl ⟨(blk_cell BK111.out 0).trans rfl, (blk_cell BK111.out 1).trans rfl, (blk_cell BK111.out 2).trans rfl, (blk_cell BK111.out 3).trans rfl, ((cel HB.out hw113_0 :)), ((cel HB.out hw113_1 :)), ((cel HB.out hw113_2 :)), ((cel HB.out hw113_3 :))⟩ (fun hHeld => ?_); refine with_tabW impl_AreCrew.tab4 impl_AreCrew.bits4 (fun HT_ HW_ => ?_)
     generalize w30.drew = w31 at BK111 HB hx113_0 hx113_1 hx113_2 hx113_3 hHeld ⊢
     refine pu_ (i := 0) (N := 12) (v := ?_) (a' := ?_) (ar 31 1 []) rfl rfl (any_of HT_.out (by kernel_rfl)) ?_ ?_ ?_
     rotate_left
     · intro w'
       go_simp
       with_reducible rfl
     rotate_left
     · simp only [puts_]
       rfl
     refine tk_ (i := 1) (N := 13) (v := ?_) (a' := ?_) (ar 31 2 []) rfl rfl (take_ofW HT_.out HW_.out (by kernel_rfl)) ?_ hHeld ?_ ?_
     rotate_left
     · rintro w' ⟨s0, s1, s2, s3, s4, s5, s6, s7⟩
       go_simp
       with_reducible rfl
     rotate_left
     · simp only [puts_]
       rfl
     refine one_ (i := 2) (N := some 14) (ar 31 3 []) rfl rfl (one_of HT_.out (by kernel_rfl)) (by decide) (fun K hK => ?_)
     refine goes_ Try.func56 (by kernel_rfl) rfl #[.int .i64 ((rd_T68 l0 x7_1).f0), .int .i64 1, .int .i64 99] (by rfl) rfl rfl (by (try simp only [am_]); first | done | rfl) ?_
     with_reducible refine (impl_InRange.calls ((rd_T68 l0 x7_1).f0) 1 99 true _ A5.out).mono ?_
     rintro e w' ⟨rfl, ⟨nd, rfl⟩⟩
     refine ⟨_, rfl, ?_⟩
     refine hK.out _ _ ⟨(blk_cell BK111.out 0).trans rfl, (blk_cell BK111.out 1).trans rfl, (blk_cell BK111.out 2).trans rfl, (blk_cell BK111.out 3).trans rfl, ((cel HB.out hw113_0 :)), ((cel HB.out hw113_1 :)), ((cel HB.out hw113_2 :)), ((cel HB.out hw113_3 :))⟩ (fun hHeld => ?_)
     clear hK K
     refine norm_ (a' := ?_) ?_ ?_
     rotate_left
     · show Act.put _ (some 14) _ = _
       simp only [puts_]
       rfl
     refine pu_ (i := 3) (N := 15) (v := ?_) (a' := ?_) (ar 31 4 []) rfl rfl (any_of HT_.out (by kernel_rfl)) ?_ ?_ ?_
     rotate_left
     · intro w'
       go_simp
       with_reducible rfl
     rotate_left
     · simp only [puts_]
       rfl
     refine pu_ (i := 4) (N := 16) (v := ?_) (a' := ?_) (ar 31 5 []) rfl rfl (any_of HT_.out (by kernel_rfl)) ?_ ?_ ?_
     rotate_left
     · intro w'
       go_simp
       with_reducible rfl
     rotate_left
     · simp only [puts_]
       rfl
     refine pu_ (i := 5) (N := 17) (v := ?_) (a' := ?_) (ar 31 6 []) rfl rfl (any_of HT_.out (by kernel_rfl)) ?_ ?_ ?_
     rotate_left
     · intro w'
       go_simp
       with_reducible rfl
     rotate_left
     · simp only [puts_]
       rfl
     refine pu_ (i := 6) (N := 18) (v := ?_) (a' := ?_) (ar 31 7 []) rfl rfl (any_of HT_.out (by kernel_rfl)) ?_ ?_ ?_
     rotate_left
     · intro w'
       go_simp
       with_reducible rfl
     rotate_left
     · simp only [puts_]
       rfl
     refine pu_ (i := 7) (N := 19) (v := ?_) (a' := ?_) (ar 31 8 []) rfl rfl (any_of HT_.out (by kernel_rfl)) ?_ ?_ ?_
     rotate_left
     · intro w'
       go_simp
       with_reducible rfl
     rotate_left
     · simp only [puts_]
       rfl
     refine pu_ (i := 8) (N := 20) (v := ?_) (a' := ?_) (ar 31 9 []) rfl rfl (any_of HT_.out (by kernel_rfl)) ?_ ?_ ?_
     rotate_left
     · intro w'
       go_simp
       with_reducible rfl
     rotate_left
     · simp only [puts_]
       rfl
     refine pu_ (i := 10) (N := 22) (v := ?_) (a' := ?_) (ar 31 11 [9]) rfl rfl (any_of HT_.out (by kernel_rfl)) ?_ ?_ ?_
     rotate_left
     · intro w'
       go_simp
       with_reducible rfl
     rotate_left
     · simp only [puts_]
       rfl
     refine pu_ (i := 11) (N := 23) (v := ?_) (a' := ?_) (ar 31 12 [9]) rfl rfl (any_of HT_.out (by kernel_rfl)) ?_ ?_ ?_
     rotate_left
     · intro w'
       go_simp
       with_reducible rfl
     rotate_left
     · simp only [puts_]
       rfl
     refine pu_ (i := 12) (N := 24) (v := ?_) (a' := ?_) (ar 31 13 [9]) rfl rfl (any_of HT_.out (by kernel_rfl)) ?_ ?_ ?_
     rotate_left
     · intro w'
       go_simp
       with_reducible rfl
     rotate_left
     · simp only [puts_]
       rfl
     refine pu_ (i := 13) (N := 25) (v := ?_) (a' := ?_) (ar 31 14 [9]) rfl rfl (any_of HT_.out (by kernel_rfl)) ?_ ?_ ?_
     rotate_left
     · intro w'
       go_simp
       with_reducible rfl
     rotate_left
     · simp only [puts_]
       rfl
     refine pu_ (i := 14) (N := 26) (v := ?_) (a' := ?_) (ar 31 15 [9]) rfl rfl (any_of HT_.out (by kernel_rfl)) ?_ ?_ ?_
     rotate_left
     · intro w'
       go_simp
       with_reducible rfl
     rotate_left
     · simp only [puts_]
       rfl
     refine tk_ (i := 9) (N := 21) (v := ?_) (a' := ?_) (ar 31 15 []) rfl rfl (take_ofW HT_.out HW_.out (by kernel_rfl)) ?_ hHeld ?_ ?_
     rotate_left
     · rintro w' ⟨s0, s1, s2, s3, s4, s5, s6, s7⟩
       go_simp
       with_reducible rfl
     rotate_left
     · simp only [puts_]
       rfl
     refine tk_ (i := 15) (N := 27) (v := ?_) (a' := ?_) (ar 31 16 []) rfl rfl (take_ofW HT_.out HW_.out (by kernel_rfl)) ?_ hHeld ?_ ?_
     rotate_left
     · rintro w' ⟨s0, s1, s2, s3, s4, s5, s6, s7⟩
       go_simp
       with_reducible rfl
     rotate_left
     · simp only [puts_]
       rfl
     refine pu_ (i := 16) (N := 28) (v := ?_) (a' := ?_) (ar 31 17 []) rfl rfl (any_of HT_.out (by kernel_rfl)) ?_ ?_ ?_
     rotate_left
     · intro w'
       go_simp
       with_reducible rfl
     rotate_left
     · simp only [puts_]
       rfl
     refine pu_ (i := 17) (N := 29) (v := ?_) (a' := ?_) (ar 31 18 []) rfl rfl (any_of HT_.out (by kernel_rfl)) ?_ ?_ ?_
     rotate_left
     · intro w'
       go_simp
       with_reducible rfl
     rotate_left
     · simp only [puts_]
       rfl
     refine pu_ (i := 18) (N := 30) (v := ?_) (a' := ?_) (ar 31 19 []) rfl rfl (any_of HT_.out (by kernel_rfl)) ?_ ?_ ?_
     rotate_left
     · intro w'
       go_simp
       with_reducible rfl
     rotate_left
     · simp only [puts_]
       rfl
     refine pu_ (i := 19) (N := 31) (v := ?_) (a' := ?_) (ar 31 20 []) rfl rfl (any_of HT_.out (by kernel_rfl)) ?_ ?_ ?_
     rotate_left
     · intro w'
       go_simp
       with_reducible rfl
     rotate_left
     · simp only [puts_]
       rfl
     refine pu_ (i := 20) (N := 32) (v := ?_) (a' := ?_) (ar 31 21 []) rfl rfl (any_of HT_.out (by kernel_rfl)) ?_ ?_ ?_
     rotate_left
     · intro w'
       go_simp
       with_reducible rfl
     rotate_left
     · simp only [puts_]
       rfl
     refine tk_ (i := 21) (N := 33) (v := ?_) (a' := ?_) (ar 31 22 []) rfl rfl (take_ofW HT_.out HW_.out (by kernel_rfl)) ?_ hHeld ?_ ?_
     rotate_left
     · rintro w' ⟨s0, s1, s2, s3, s4, s5, s6, s7⟩
       go_simp
       with_reducible rfl
     rotate_left
     · simp only [puts_]
       rfl
     refine one_ (i := 22) (N := some 34) (ar 31 23 []) rfl rfl (one_of HT_.out (by kernel_rfl)) (by decide) (fun K hK => ?_)
     refine goes_ Try.func56 (by kernel_rfl) rfl #[.int .i64 ((rd_T68 l0 x7_1).f1), .int .i64 0, .int .i64 100] (by rfl) rfl rfl (by (try simp only [am_]); first | done | rfl) ?_
     with_reducible refine (impl_InRange.calls ((rd_T68 l0 x7_1).f1) 0 100 false _ A16.out).mono ?_
     rintro e w' ⟨rfl, ⟨nd, rfl⟩⟩
     refine ⟨_, rfl, ?_⟩
     refine hK.out _ _ ⟨(blk_cell BK111.out 0).trans rfl, (blk_cell BK111.out 1).trans rfl, (blk_cell BK111.out 2).trans rfl, (blk_cell BK111.out 3).trans rfl, ((cel HB.out hw113_0 :)), ((cel HB.out hw113_1 :)), ((cel HB.out hw113_2 :)), ((cel HB.out hw113_3 :))⟩ (fun hHeld => ?_)
     clear hK K
     refine norm_ (a' := ?_) ?_ ?_
     rotate_left
     · show Act.put _ (some 34) _ = _
       simp only [puts_]
       rfl
     refine pu_ (i := 23) (N := 35) (v := ?_) (a' := ?_) (ar 31 24 []) rfl rfl (any_of HT_.out (by kernel_rfl)) ?_ ?_ ?_
     rotate_left
     · intro w'
       go_simp
       with_reducible rfl
     rotate_left
     · simp only [puts_]
       rfl
     refine pu_ (i := 24) (N := 36) (v := ?_) (a' := ?_) (ar 31 25 []) rfl rfl (any_of HT_.out (by kernel_rfl)) ?_ ?_ ?_
     rotate_left
     · intro w'
       go_simp
       with_reducible rfl
     rotate_left
     · simp only [puts_]
       rfl
     refine pu_ (i := 25) (N := 37) (v := ?_) (a' := ?_) (ar 31 26 []) rfl rfl (any_of HT_.out (by kernel_rfl)) ?_ ?_ ?_
     rotate_left
     · intro w'
       go_simp
       with_reducible rfl
     rotate_left
     · simp only [puts_]
       rfl
     refine pn_ (i := 26) (N := 38) (a' := ?_) (ar 31 27 []) rfl rfl (any_of HT_.out (by kernel_rfl)) ?_ ?_
     rotate_left
     · simp only [puts_]
       rfl
     refine pn_ (i := 27) (N := 39) (a' := ?_) (ar 31 28 []) rfl rfl (any_of HT_.out (by kernel_rfl)) ?_ ?_
     rotate_left
     · simp only [puts_]
       rfl
     refine pn_ (i := 28) (N := 40) (a' := ?_) (ar 31 29 []) rfl rfl (any_of HT_.out (by kernel_rfl)) ?_ ?_
     rotate_left
     · simp only [puts_]
       rfl
     refine pn_ (i := 29) (N := 41) (a' := ?_) (ar 31 30 []) rfl rfl (any_of HT_.out (by kernel_rfl)) ?_ ?_
     rotate_left
     · simp only [puts_]
       rfl
     refine pu_ (i := 30) (N := 42) (v := ?_) (a' := ?_) (ar 31 31 []) rfl rfl (any_of HT_.out (by kernel_rfl)) ?_ ?_ ?_
     rotate_left
     · intro w'
       go_simp
       with_reducible rfl
     rotate_left
     · simp only [puts_]
       rfl
     refine done_ (done_of HT_.out (by kernel_rfl)) ?_
     try go_wp2
     go_ret
     exact ⟨by first | rfl | (simp [errW_none, errW_some] <;> rfl) | (simp only [← hji8]; first | rfl | (simp [errW_none, errW_some] <;> rfl)) | (simp [*, errW_none, errW_some] <;> rfl), below_up HB.out⟩
   subst c17
   rw [if_pos rfl] at H
   replace H := Option.bind_eq_some_iff.mp H
   obtain ⟨t115, A180, H⟩ := H
   have A18 := Aside0.mk A180
   clear A180
   by_cases c19 : t115 = true
   · subst c19
     rw [if_pos rfl] at H
     have H' := Aside0.mk H
     clear H
     have p110 : 0 ≤ (x7_1 : Int) := of_decide_eq_true (by first | (with_reducible assumption) | assumption)
     have q110 : x7_1 < (l0.length : Int) := of_decide_eq_true (by first | (with_reducible assumption) | assumption)
     obtain ⟨ad110, e110, hx110_0, hx110_1, hx110_2, hx110_3⟩ := at_T68 HR0.out x7_1 p110 q110
     cases e110
     replace hx110_0 := (cel HB.out hx110_0 :)
     replace hx110_1 := (cel HB.out hx110_1 :)
     replace hx110_2 := (cel HB.out hx110_2 :)
     replace hx110_3 := (cel HB.out hx110_3 :)
     replace p110 := eq_true p110
     replace q110 := eq_true q110
     try go_wp2_with (first | ((with_reducible refine gate_dst (N := 4) rfl ?_); refine box_event ?hg (N := 4) ?hd (cs := #[.int .i64 0, .int .i64 0, .int .i64 0, .bool false]) (t := 68) ?hr ?_; (case hd => rfl); (case hg => rfl); (case hr => first | (go_simp; done) | (go_simp; rfl)); intro gb111 hg w20 hbox hb; have n0_ := Aside0.mk (below_step (below_up HB.out) hb); have n1_ := Aside0.mk (hbox); have n2_ := Aside0.mk (szle hg HB.out); have n3_ := Aside0.mk (szle hg HB.out); replace HB := n0_; have BK111 := n1_; have GW111 := n2_; have GE111 := n3_; clear n0_ n1_ n2_ n3_; clear hb hbox hg; obtain ⟨hcz21_0, hcz21_1, hcz21_2, hcz21_3⟩ := cells4_ BK111.out; obtain ⟨hfz21_0, hfz21_1, hfz21_2, hfz21_3⟩ := frz4_ BK111.out))
     have n0_ : Aside0 (((((w20.setCell ⟨gb111, 0, none⟩ (.int .i64 ((rd_T68 l0 x7_1).f0))).setCell ⟨gb111, 1, none⟩ (.int .i64 ((rd_T68 l0 x7_1).f1))).setCell ⟨gb111, 2, none⟩ (.int .i64 ((rd_T68 l0 x7_1).f2))).setCell ⟨gb111, 3, none⟩ (.bool ((rd_T68 l0 x7_1).f3))).heap[gb111]? = some (.cells #[.int .i64 ((rd_T68 l0 x7_1).f0), .int .i64 ((rd_T68 l0 x7_1).f1), .int .i64 ((rd_T68 l0 x7_1).f2), .bool ((rd_T68 l0 x7_1).f3)] 68 (0, 0))) := ⟨by (with_reducible repeat (first | refine blk_drewN ?_ _ | refine blk_drew ?_ | refine blk_alloc ?_ _)); refine blk_put (cs := #[.int .i64 ((rd_T68 l0 x7_1).f0), .int .i64 ((rd_T68 l0 x7_1).f1), .int .i64 ((rd_T68 l0 x7_1).f2), .bool false]) ?_ 3 _ rfl; (with_reducible repeat (first | refine blk_drewN ?_ _ | refine blk_drew ?_ | refine blk_alloc ?_ _)); refine blk_put (cs := #[.int .i64 ((rd_T68 l0 x7_1).f0), .int .i64 ((rd_T68 l0 x7_1).f1), .int .i64 0, .bool false]) ?_ 2 _ rfl; (with_reducible repeat (first | refine blk_drewN ?_ _ | refine blk_drew ?_ | refine blk_alloc ?_ _)); refine blk_put (cs := #[.int .i64 ((rd_T68 l0 x7_1).f0), .int .i64 0, .int .i64 0, .bool false]) ?_ 1 _ rfl; (with_reducible repeat (first | refine blk_drewN ?_ _ | refine blk_drew ?_ | refine blk_alloc ?_ _)); refine blk_put (cs := #[.int .i64 0, .int .i64 0, .int .i64 0, .bool false]) ?_ 0 _ rfl; (with_reducible repeat (first | refine blk_drewN ?_ _ | refine blk_drew ?_ | refine blk_alloc ?_ _)); exact BK111.out⟩
     have n1_ : Aside0 (Below w.heap.size w ((((w20.setCell ⟨gb111, 0, none⟩ (.int .i64 ((rd_T68 l0 x7_1).f0))).setCell ⟨gb111, 1, none⟩ (.int .i64 ((rd_T68 l0 x7_1).f1))).setCell ⟨gb111, 2, none⟩ (.int .i64 ((rd_T68 l0 x7_1).f2))).setCell ⟨gb111, 3, none⟩ (.bool ((rd_T68 l0 x7_1).f3)))) := ⟨by repeat (first | (with_reducible first | exact HB.out | apply below_alloc | apply pw_below_drewN | apply below_drew1 | refine below_set ?_ GE111.out) | exact HB.out)⟩
     (try clear BK111)
     (try clear HB)
     generalize ((((w20.setCell ⟨gb111, 0, none⟩ (.int .i64 ((rd_T68 l0 x7_1).f0))).setCell ⟨gb111, 1, none⟩ (.int .i64 ((rd_T68 l0 x7_1).f1))).setCell ⟨gb111, 2, none⟩ (.int .i64 ((rd_T68 l0 x7_1).f2))).setCell ⟨gb111, 3, none⟩ (.bool ((rd_T68 l0 x7_1).f3))) = w22 at n0_ n1_ ⊢
     have BK111 := n0_
     have HB := n1_
     clear n0_ n1_
     have n0_ := Aside0.mk (blk_drew BK111.out)
     have n1_ := Aside0.mk (below_drew1 HB.out)
     clear BK111
     clear HB
     have BK111 := n0_
     have HB := n1_
     clear n0_ n1_
     have p113 : 0 ≤ ((ji8) : Int) := of_decide_eq_true (by first | (with_reducible assumption) | assumption)
     have q113 : (ji8) < (l0.length : Int) := of_decide_eq_true (by first | (with_reducible assumption) | assumption)
     obtain ⟨ad113, e113, hx113_0, hx113_1, hx113_2, hx113_3⟩ := at_T68 HR0.out (ji8) p113 q113
     have hw113_3 := hx113_3
     have hw113_2 := hx113_2
     have hw113_1 := hx113_1
     have hw113_0 := hx113_0
     obtain rfl : ad110 = ad113 := (by injection e113)
     replace hx113_0 := (cel HB.out hx113_0 :)
     replace hx113_1 := (cel HB.out hx113_1 :)
     replace hx113_2 := (cel HB.out hx113_2 :)
     replace hx113_3 := (cel HB.out hx113_3 :)
     replace p113 := eq_true p113
     replace q113 := eq_true q113
     refine start_ (n := 31) (S := fun w' => w'.cell? ⟨gb111, 0, none⟩ = some (.int .i64 ((rd_T68 l0 x7_1).f0)) ∧ w'.cell? ⟨gb111, 1, none⟩ = some (.int .i64 ((rd_T68 l0 x7_1).f1)) ∧ w'.cell? ⟨gb111, 2, none⟩ = some (.int .i64 ((rd_T68 l0 x7_1).f2)) ∧ w'.cell? ⟨gb111, 3, none⟩ = some (.bool ((rd_T68 l0 x7_1).f3)) ∧ w'.cell? (ad110.add (((ji8)).toNat * 4)) = some (.int .i64 ((rd_T68 l0 (ji8)).f0)) ∧ w'.cell? ⟨(ad110.add (((ji8)).toNat * 4)).block, (ad110.add (((ji8)).toNat * 4)).off + 1, none⟩ = some (.int .i64 ((rd_T68 l0 (ji8)).f1)) ∧ w'.cell? ⟨(ad110.add (((ji8)).toNat * 4)).block, (ad110.add (((ji8)).toNat * 4)).off + 2, none⟩ = some (.int .i64 ((rd_T68 l0 (ji8)).f2)) ∧ w'.cell? ⟨(ad110.add (((ji8)).toNat * 4)).block, (ad110.add (((ji8)).toNat * 4)).off + 3, none⟩ = some (.bool ((rd_T68 l0 (ji8)).f3))) (ds := []) (ar 31 0 []) (by kernel_rfl) rfl rfl ⟨(blk_cell BK111.out 0).trans rfl, (blk_cell BK111.out 1).trans rfl, (blk_cell BK111.out 2).trans rfl, (blk_cell BK111.out 3).trans rfl, ((cel HB.out hw113_0 :)), ((cel HB.out hw113_1 :)), ((cel HB.out hw113_2 :)), ((cel HB.out hw113_3 :))⟩ (fun hHeld => ?_); refine with_tabW impl_AreCrew.tab4 impl_AreCrew.bits4 (fun HT_ HW_ => ?_)
     generalize w22.drew = w23 at BK111 HB hx113_0 hx113_1 hx113_2 hx113_3 hHeld ⊢
     refine pu_ (i := 0) (N := 12) (v := ?_) (a' := ?_) (ar 31 1 []) rfl rfl (any_of HT_.out (by kernel_rfl)) ?_ ?_ ?_
     rotate_left
     · intro w'
       go_simp
       with_reducible rfl
     rotate_left
     · simp only [puts_]
       rfl
     refine tk_ (i := 1) (N := 13) (v := ?_) (a' := ?_) (ar 31 2 []) rfl rfl (take_ofW HT_.out HW_.out (by kernel_rfl)) ?_ hHeld ?_ ?_
     rotate_left
     · rintro w' ⟨s0, s1, s2, s3, s4, s5, s6, s7⟩
       go_simp
       with_reducible rfl
     rotate_left
     · simp only [puts_]
       rfl
     refine one_ (i := 2) (N := some 14) (ar 31 3 []) rfl rfl (one_of HT_.out (by kernel_rfl)) (by decide) (fun K hK => ?_)
     refine goes_ Try.func56 (by kernel_rfl) rfl #[.int .i64 ((rd_T68 l0 x7_1).f0), .int .i64 1, .int .i64 99] (by rfl) rfl rfl (by (try simp only [am_]); first | done | rfl) ?_
     with_reducible refine (impl_InRange.calls ((rd_T68 l0 x7_1).f0) 1 99 true _ A5.out).mono ?_
     rintro e w' ⟨rfl, ⟨nd, rfl⟩⟩
     refine ⟨_, rfl, ?_⟩
     refine hK.out _ _ ⟨(blk_cell BK111.out 0).trans rfl, (blk_cell BK111.out 1).trans rfl, (blk_cell BK111.out 2).trans rfl, (blk_cell BK111.out 3).trans rfl, ((cel HB.out hw113_0 :)), ((cel HB.out hw113_1 :)), ((cel HB.out hw113_2 :)), ((cel HB.out hw113_3 :))⟩ (fun hHeld => ?_)
     clear hK K
     refine norm_ (a' := ?_) ?_ ?_
     rotate_left
     · show Act.put _ (some 14) _ = _
       simp only [puts_]
       rfl
     refine pu_ (i := 3) (N := 15) (v := ?_) (a' := ?_) (ar 31 4 []) rfl rfl (any_of HT_.out (by kernel_rfl)) ?_ ?_ ?_
     rotate_left
     · intro w'
       go_simp
       with_reducible rfl
     rotate_left
     · simp only [puts_]
       rfl
     refine pu_ (i := 4) (N := 16) (v := ?_) (a' := ?_) (ar 31 5 []) rfl rfl (any_of HT_.out (by kernel_rfl)) ?_ ?_ ?_
     rotate_left
     · intro w'
       go_simp
       with_reducible rfl
     rotate_left
     · simp only [puts_]
       rfl
     refine pu_ (i := 5) (N := 17) (v := ?_) (a' := ?_) (ar 31 6 []) rfl rfl (any_of HT_.out (by kernel_rfl)) ?_ ?_ ?_
     rotate_left
     · intro w'
       go_simp
       with_reducible rfl
     rotate_left
     · simp only [puts_]
       rfl
     refine pu_ (i := 6) (N := 18) (v := ?_) (a' := ?_) (ar 31 7 []) rfl rfl (any_of HT_.out (by kernel_rfl)) ?_ ?_ ?_
     rotate_left
     · intro w'
       go_simp
       with_reducible rfl
     rotate_left
     · simp only [puts_]
       rfl
     refine pu_ (i := 7) (N := 19) (v := ?_) (a' := ?_) (ar 31 8 []) rfl rfl (any_of HT_.out (by kernel_rfl)) ?_ ?_ ?_
     rotate_left
     · intro w'
       go_simp
       with_reducible rfl
     rotate_left
     · simp only [puts_]
       rfl
     refine pu_ (i := 8) (N := 20) (v := ?_) (a' := ?_) (ar 31 9 []) rfl rfl (any_of HT_.out (by kernel_rfl)) ?_ ?_ ?_
     rotate_left
     · intro w'
       go_simp
       with_reducible rfl
     rotate_left
     · simp only [puts_]
       rfl
     refine pu_ (i := 10) (N := 22) (v := ?_) (a' := ?_) (ar 31 11 [9]) rfl rfl (any_of HT_.out (by kernel_rfl)) ?_ ?_ ?_
     rotate_left
     · intro w'
       go_simp
       with_reducible rfl
     rotate_left
     · simp only [puts_]
       rfl
     refine pu_ (i := 11) (N := 23) (v := ?_) (a' := ?_) (ar 31 12 [9]) rfl rfl (any_of HT_.out (by kernel_rfl)) ?_ ?_ ?_
     rotate_left
     · intro w'
       go_simp
       with_reducible rfl
     rotate_left
     · simp only [puts_]
       rfl
     refine pu_ (i := 12) (N := 24) (v := ?_) (a' := ?_) (ar 31 13 [9]) rfl rfl (any_of HT_.out (by kernel_rfl)) ?_ ?_ ?_
     rotate_left
     · intro w'
       go_simp
       with_reducible rfl
     rotate_left
     · simp only [puts_]
       rfl
     refine pu_ (i := 13) (N := 25) (v := ?_) (a' := ?_) (ar 31 14 [9]) rfl rfl (any_of HT_.out (by kernel_rfl)) ?_ ?_ ?_
     rotate_left
     · intro w'
       go_simp
       with_reducible rfl
     rotate_left
     · simp only [puts_]
       rfl
     refine pu_ (i := 14) (N := 26) (v := ?_) (a' := ?_) (ar 31 15 [9]) rfl rfl (any_of HT_.out (by kernel_rfl)) ?_ ?_ ?_
     rotate_left
     · intro w'
       go_simp
       with_reducible rfl
     rotate_left
     · simp only [puts_]
       rfl
     refine tk_ (i := 9) (N := 21) (v := ?_) (a' := ?_) (ar 31 15 []) rfl rfl (take_ofW HT_.out HW_.out (by kernel_rfl)) ?_ hHeld ?_ ?_
     rotate_left
     · rintro w' ⟨s0, s1, s2, s3, s4, s5, s6, s7⟩
       go_simp
       with_reducible rfl
     rotate_left
     · simp only [puts_]
       rfl
     refine tk_ (i := 15) (N := 27) (v := ?_) (a' := ?_) (ar 31 16 []) rfl rfl (take_ofW HT_.out HW_.out (by kernel_rfl)) ?_ hHeld ?_ ?_
     rotate_left
     · rintro w' ⟨s0, s1, s2, s3, s4, s5, s6, s7⟩
       go_simp
       with_reducible rfl
     rotate_left
     · simp only [puts_]
       rfl
     refine pu_ (i := 16) (N := 28) (v := ?_) (a' := ?_) (ar 31 17 []) rfl rfl (any_of HT_.out (by kernel_rfl)) ?_ ?_ ?_
     rotate_left
     · intro w'
       go_simp
       with_reducible rfl
     rotate_left
     · simp only [puts_]
       rfl
     refine pu_ (i := 17) (N := 29) (v := ?_) (a' := ?_) (ar 31 18 []) rfl rfl (any_of HT_.out (by kernel_rfl)) ?_ ?_ ?_
     rotate_left
     · intro w'
       go_simp
       with_reducible rfl
     rotate_left
     · simp only [puts_]
       rfl
     refine pu_ (i := 18) (N := 30) (v := ?_) (a' := ?_) (ar 31 19 []) rfl rfl (any_of HT_.out (by kernel_rfl)) ?_ ?_ ?_
     rotate_left
     · intro w'
       go_simp
       with_reducible rfl
     rotate_left
     · simp only [puts_]
       rfl
     refine pu_ (i := 19) (N := 31) (v := ?_) (a' := ?_) (ar 31 20 []) rfl rfl (any_of HT_.out (by kernel_rfl)) ?_ ?_ ?_
     rotate_left
     · intro w'
       go_simp
       with_reducible rfl
     rotate_left
     · simp only [puts_]
       rfl
     refine pu_ (i := 20) (N := 32) (v := ?_) (a' := ?_) (ar 31 21 []) rfl rfl (any_of HT_.out (by kernel_rfl)) ?_ ?_ ?_
     rotate_left
     · intro w'
       go_simp
       with_reducible rfl
     rotate_left
     · simp only [puts_]
       rfl
     refine tk_ (i := 21) (N := 33) (v := ?_) (a' := ?_) (ar 31 22 []) rfl rfl (take_ofW HT_.out HW_.out (by kernel_rfl)) ?_ hHeld ?_ ?_
     rotate_left
     · rintro w' ⟨s0, s1, s2, s3, s4, s5, s6, s7⟩
       go_simp
       with_reducible rfl
     rotate_left
     · simp only [puts_]
       rfl
     refine one_ (i := 22) (N := some 34) (ar 31 23 []) rfl rfl (one_of HT_.out (by kernel_rfl)) (by decide) (fun K hK => ?_)
     refine goes_ Try.func56 (by kernel_rfl) rfl #[.int .i64 ((rd_T68 l0 x7_1).f1), .int .i64 0, .int .i64 100] (by rfl) rfl rfl (by (try simp only [am_]); first | done | rfl) ?_
     with_reducible refine (impl_InRange.calls ((rd_T68 l0 x7_1).f1) 0 100 true _ A16.out).mono ?_
     rintro e w' ⟨rfl, ⟨nd, rfl⟩⟩
     refine ⟨_, rfl, ?_⟩
     refine hK.out _ _ ⟨(blk_cell BK111.out 0).trans rfl, (blk_cell BK111.out 1).trans rfl, (blk_cell BK111.out 2).trans rfl, (blk_cell BK111.out 3).trans rfl, ((cel HB.out hw113_0 :)), ((cel HB.out hw113_1 :)), ((cel HB.out hw113_2 :)), ((cel HB.out hw113_3 :))⟩ (fun hHeld => ?_)
     clear hK K
     refine norm_ (a' := ?_) ?_ ?_
     rotate_left
     · show Act.put _ (some 34) _ = _
       simp only [puts_]
       rfl
     refine pu_ (i := 23) (N := 35) (v := ?_) (a' := ?_) (ar 31 24 []) rfl rfl (any_of HT_.out (by kernel_rfl)) ?_ ?_ ?_
     rotate_left
     · intro w'
       go_simp
       with_reducible rfl
     rotate_left
     · simp only [puts_]
       rfl
     refine pu_ (i := 24) (N := 36) (v := ?_) (a' := ?_) (ar 31 25 []) rfl rfl (any_of HT_.out (by kernel_rfl)) ?_ ?_ ?_
     rotate_left
     · intro w'
       go_simp
       with_reducible rfl
     rotate_left
     · simp only [puts_]
       rfl
     refine pu_ (i := 25) (N := 37) (v := ?_) (a' := ?_) (ar 31 26 []) rfl rfl (any_of HT_.out (by kernel_rfl)) ?_ ?_ ?_
     rotate_left
     · intro w'
       go_simp
       with_reducible rfl
     rotate_left
     · simp only [puts_]
       rfl
     refine pu_ (i := 26) (N := 38) (v := ?_) (a' := ?_) (ar 31 27 []) rfl rfl (any_of HT_.out (by kernel_rfl)) ?_ ?_ ?_
     rotate_left
     · intro w'
       go_simp
       with_reducible rfl
     rotate_left
     · simp only [puts_]
       rfl
     refine tk_ (i := 27) (N := 39) (v := ?_) (a' := ?_) (ar 31 28 []) rfl rfl (take_ofW HT_.out HW_.out (by kernel_rfl)) ?_ hHeld ?_ ?_
     rotate_left
     · rintro w' ⟨s0, s1, s2, s3, s4, s5, s6, s7⟩
       go_simp
       with_reducible rfl
     rotate_left
     · simp only [puts_]
       rfl
     refine one_ (i := 28) (N := some 40) (ar 31 29 []) rfl rfl (one_of HT_.out (by kernel_rfl)) (by decide) (fun K hK => ?_)
     refine goes_ Try.func56 (by kernel_rfl) rfl #[.int .i64 ((rd_T68 l0 x7_1).f2), .int .i64 1, .int .i64 10] (by rfl) rfl rfl (by (try simp only [am_]); first | done | rfl) ?_
     with_reducible refine (impl_InRange.calls ((rd_T68 l0 x7_1).f2) 1 10 true _ A18.out).mono ?_
     rintro e w' ⟨rfl, ⟨nd, rfl⟩⟩
     refine ⟨_, rfl, ?_⟩
     refine hK.out _ _ ⟨(blk_cell BK111.out 0).trans rfl, (blk_cell BK111.out 1).trans rfl, (blk_cell BK111.out 2).trans rfl, (blk_cell BK111.out 3).trans rfl, ((cel HB.out hw113_0 :)), ((cel HB.out hw113_1 :)), ((cel HB.out hw113_2 :)), ((cel HB.out hw113_3 :))⟩ (fun hHeld => ?_)
     clear hK K
     refine norm_ (a' := ?_) ?_ ?_
     rotate_left
     · show Act.put _ (some 40) _ = _
       simp only [puts_]
       rfl
     refine pu_ (i := 29) (N := 41) (v := ?_) (a' := ?_) (ar 31 30 []) rfl rfl (any_of HT_.out (by kernel_rfl)) ?_ ?_ ?_
     rotate_left
     · intro w'
       go_simp
       with_reducible rfl
     rotate_left
     · simp only [puts_]
       rfl
     refine pu_ (i := 30) (N := 42) (v := ?_) (a' := ?_) (ar 31 31 []) rfl rfl (any_of HT_.out (by kernel_rfl)) ?_ ?_ ?_
     rotate_left
     · intro w'
       go_simp
       with_reducible rfl
     rotate_left
     · simp only [puts_]
       rfl
     refine done_ (done_of HT_.out (by kernel_rfl)) ?_
     try go_wp2
     go_roundg k1
     case measure => have := HK1.out; omega
     case rel => exact ⟨(wrap64 (x7_1 + 1)), (by first | rfl | (simp; done) | (simp [*]; done)), H', ⟨by have := HK1.out; omega⟩, ⟨below_up HB.out⟩⟩
   replace c19 := Bool.eq_false_iff.mpr c19
   subst c19
   rw [if_neg (show ¬ (false = true) by decide)] at H
   obtain rfl := Option.some.inj H
   have p110 : 0 ≤ (x7_1 : Int) := of_decide_eq_true (by first | (with_reducible assumption) | assumption)
   have q110 : x7_1 < (l0.length : Int) := of_decide_eq_true (by first | (with_reducible assumption) | assumption)
   obtain ⟨ad110, e110, hx110_0, hx110_1, hx110_2, hx110_3⟩ := at_T68 HR0.out x7_1 p110 q110
   cases e110
   replace hx110_0 := (cel HB.out hx110_0 :)
   replace hx110_1 := (cel HB.out hx110_1 :)
   replace hx110_2 := (cel HB.out hx110_2 :)
   replace hx110_3 := (cel HB.out hx110_3 :)
   replace p110 := eq_true p110
   replace q110 := eq_true q110
   try go_wp2_with (first | ((with_reducible refine gate_dst (N := 4) rfl ?_); refine box_event ?hg (N := 4) ?hd (cs := #[.int .i64 0, .int .i64 0, .int .i64 0, .bool false]) (t := 68) ?hr ?_; (case hd => rfl); (case hg => rfl); (case hr => first | (go_simp; done) | (go_simp; rfl)); intro gb111 hg w24 hbox hb; have n0_ := Aside0.mk (below_step (below_up HB.out) hb); have n1_ := Aside0.mk (hbox); have n2_ := Aside0.mk (szle hg HB.out); have n3_ := Aside0.mk (szle hg HB.out); replace HB := n0_; have BK111 := n1_; have GW111 := n2_; have GE111 := n3_; clear n0_ n1_ n2_ n3_; clear hb hbox hg; obtain ⟨hcz25_0, hcz25_1, hcz25_2, hcz25_3⟩ := cells4_ BK111.out; obtain ⟨hfz25_0, hfz25_1, hfz25_2, hfz25_3⟩ := frz4_ BK111.out))
   have n0_ : Aside0 (((((w24.setCell ⟨gb111, 0, none⟩ (.int .i64 ((rd_T68 l0 x7_1).f0))).setCell ⟨gb111, 1, none⟩ (.int .i64 ((rd_T68 l0 x7_1).f1))).setCell ⟨gb111, 2, none⟩ (.int .i64 ((rd_T68 l0 x7_1).f2))).setCell ⟨gb111, 3, none⟩ (.bool ((rd_T68 l0 x7_1).f3))).heap[gb111]? = some (.cells #[.int .i64 ((rd_T68 l0 x7_1).f0), .int .i64 ((rd_T68 l0 x7_1).f1), .int .i64 ((rd_T68 l0 x7_1).f2), .bool ((rd_T68 l0 x7_1).f3)] 68 (0, 0))) := ⟨by (with_reducible repeat (first | refine blk_drewN ?_ _ | refine blk_drew ?_ | refine blk_alloc ?_ _)); refine blk_put (cs := #[.int .i64 ((rd_T68 l0 x7_1).f0), .int .i64 ((rd_T68 l0 x7_1).f1), .int .i64 ((rd_T68 l0 x7_1).f2), .bool false]) ?_ 3 _ rfl; (with_reducible repeat (first | refine blk_drewN ?_ _ | refine blk_drew ?_ | refine blk_alloc ?_ _)); refine blk_put (cs := #[.int .i64 ((rd_T68 l0 x7_1).f0), .int .i64 ((rd_T68 l0 x7_1).f1), .int .i64 0, .bool false]) ?_ 2 _ rfl; (with_reducible repeat (first | refine blk_drewN ?_ _ | refine blk_drew ?_ | refine blk_alloc ?_ _)); refine blk_put (cs := #[.int .i64 ((rd_T68 l0 x7_1).f0), .int .i64 0, .int .i64 0, .bool false]) ?_ 1 _ rfl; (with_reducible repeat (first | refine blk_drewN ?_ _ | refine blk_drew ?_ | refine blk_alloc ?_ _)); refine blk_put (cs := #[.int .i64 0, .int .i64 0, .int .i64 0, .bool false]) ?_ 0 _ rfl; (with_reducible repeat (first | refine blk_drewN ?_ _ | refine blk_drew ?_ | refine blk_alloc ?_ _)); exact BK111.out⟩
   have n1_ : Aside0 (Below w.heap.size w ((((w24.setCell ⟨gb111, 0, none⟩ (.int .i64 ((rd_T68 l0 x7_1).f0))).setCell ⟨gb111, 1, none⟩ (.int .i64 ((rd_T68 l0 x7_1).f1))).setCell ⟨gb111, 2, none⟩ (.int .i64 ((rd_T68 l0 x7_1).f2))).setCell ⟨gb111, 3, none⟩ (.bool ((rd_T68 l0 x7_1).f3)))) := ⟨by repeat (first | (with_reducible first | exact HB.out | apply below_alloc | apply pw_below_drewN | apply below_drew1 | refine below_set ?_ GE111.out) | exact HB.out)⟩
   (try clear BK111)
   (try clear HB)
   generalize ((((w24.setCell ⟨gb111, 0, none⟩ (.int .i64 ((rd_T68 l0 x7_1).f0))).setCell ⟨gb111, 1, none⟩ (.int .i64 ((rd_T68 l0 x7_1).f1))).setCell ⟨gb111, 2, none⟩ (.int .i64 ((rd_T68 l0 x7_1).f2))).setCell ⟨gb111, 3, none⟩ (.bool ((rd_T68 l0 x7_1).f3))) = w26 at n0_ n1_ ⊢
   have BK111 := n0_
   have HB := n1_
   clear n0_ n1_
   have n0_ := Aside0.mk (blk_drew BK111.out)
   have n1_ := Aside0.mk (below_drew1 HB.out)
   clear BK111
   clear HB
   have BK111 := n0_
   have HB := n1_
   clear n0_ n1_
   have p113 : 0 ≤ ((ji8) : Int) := of_decide_eq_true (by first | (with_reducible assumption) | assumption)
   have q113 : (ji8) < (l0.length : Int) := of_decide_eq_true (by first | (with_reducible assumption) | assumption)
   obtain ⟨ad113, e113, hx113_0, hx113_1, hx113_2, hx113_3⟩ := at_T68 HR0.out (ji8) p113 q113
   have hw113_3 := hx113_3
   have hw113_2 := hx113_2
   have hw113_1 := hx113_1
   have hw113_0 := hx113_0
   obtain rfl : ad110 = ad113 := (by injection e113)
   replace hx113_0 := (cel HB.out hx113_0 :)
   replace hx113_1 := (cel HB.out hx113_1 :)
   replace hx113_2 := (cel HB.out hx113_2 :)
   replace hx113_3 := (cel HB.out hx113_3 :)
   replace p113 := eq_true p113
   replace q113 := eq_true q113
   refine start_ (n := 31) (S := fun w' => w'.cell? ⟨gb111, 0, none⟩ = some (.int .i64 ((rd_T68 l0 x7_1).f0)) ∧ w'.cell? ⟨gb111, 1, none⟩ = some (.int .i64 ((rd_T68 l0 x7_1).f1)) ∧ w'.cell? ⟨gb111, 2, none⟩ = some (.int .i64 ((rd_T68 l0 x7_1).f2)) ∧ w'.cell? ⟨gb111, 3, none⟩ = some (.bool ((rd_T68 l0 x7_1).f3)) ∧ w'.cell? (ad110.add (((ji8)).toNat * 4)) = some (.int .i64 ((rd_T68 l0 (ji8)).f0)) ∧ w'.cell? ⟨(ad110.add (((ji8)).toNat * 4)).block, (ad110.add (((ji8)).toNat * 4)).off + 1, none⟩ = some (.int .i64 ((rd_T68 l0 (ji8)).f1)) ∧ w'.cell? ⟨(ad110.add (((ji8)).toNat * 4)).block, (ad110.add (((ji8)).toNat * 4)).off + 2, none⟩ = some (.int .i64 ((rd_T68 l0 (ji8)).f2)) ∧ w'.cell? ⟨(ad110.add (((ji8)).toNat * 4)).block, (ad110.add (((ji8)).toNat * 4)).off + 3, none⟩ = some (.bool ((rd_T68 l0 (ji8)).f3))) (ds := []) (ar 31 0 []) (by kernel_rfl) rfl rfl ⟨(blk_cell BK111.out 0).trans rfl, (blk_cell BK111.out 1).trans rfl, (blk_cell BK111.out 2).trans rfl, (blk_cell BK111.out 3).trans rfl, ((cel HB.out hw113_0 :)), ((cel HB.out hw113_1 :)), ((cel HB.out hw113_2 :)), ((cel HB.out hw113_3 :))⟩ (fun hHeld => ?_); refine with_tabW impl_AreCrew.tab4 impl_AreCrew.bits4 (fun HT_ HW_ => ?_)
   generalize w26.drew = w27 at BK111 HB hx113_0 hx113_1 hx113_2 hx113_3 hHeld ⊢
   refine pu_ (i := 0) (N := 12) (v := ?_) (a' := ?_) (ar 31 1 []) rfl rfl (any_of HT_.out (by kernel_rfl)) ?_ ?_ ?_
   rotate_left
   · intro w'
     go_simp
     with_reducible rfl
   rotate_left
   · simp only [puts_]
     rfl
   refine tk_ (i := 1) (N := 13) (v := ?_) (a' := ?_) (ar 31 2 []) rfl rfl (take_ofW HT_.out HW_.out (by kernel_rfl)) ?_ hHeld ?_ ?_
   rotate_left
   · rintro w' ⟨s0, s1, s2, s3, s4, s5, s6, s7⟩
     go_simp
     with_reducible rfl
   rotate_left
   · simp only [puts_]
     rfl
   refine one_ (i := 2) (N := some 14) (ar 31 3 []) rfl rfl (one_of HT_.out (by kernel_rfl)) (by decide) (fun K hK => ?_)
   refine goes_ Try.func56 (by kernel_rfl) rfl #[.int .i64 ((rd_T68 l0 x7_1).f0), .int .i64 1, .int .i64 99] (by rfl) rfl rfl (by (try simp only [am_]); first | done | rfl) ?_
   with_reducible refine (impl_InRange.calls ((rd_T68 l0 x7_1).f0) 1 99 true _ A5.out).mono ?_
   rintro e w' ⟨rfl, ⟨nd, rfl⟩⟩
   refine ⟨_, rfl, ?_⟩
   refine hK.out _ _ ⟨(blk_cell BK111.out 0).trans rfl, (blk_cell BK111.out 1).trans rfl, (blk_cell BK111.out 2).trans rfl, (blk_cell BK111.out 3).trans rfl, ((cel HB.out hw113_0 :)), ((cel HB.out hw113_1 :)), ((cel HB.out hw113_2 :)), ((cel HB.out hw113_3 :))⟩ (fun hHeld => ?_)
   clear hK K
   refine norm_ (a' := ?_) ?_ ?_
   rotate_left
   · show Act.put _ (some 14) _ = _
     simp only [puts_]
     rfl
   refine pu_ (i := 3) (N := 15) (v := ?_) (a' := ?_) (ar 31 4 []) rfl rfl (any_of HT_.out (by kernel_rfl)) ?_ ?_ ?_
   rotate_left
   · intro w'
     go_simp
     with_reducible rfl
   rotate_left
   · simp only [puts_]
     rfl
   refine pu_ (i := 4) (N := 16) (v := ?_) (a' := ?_) (ar 31 5 []) rfl rfl (any_of HT_.out (by kernel_rfl)) ?_ ?_ ?_
   rotate_left
   · intro w'
     go_simp
     with_reducible rfl
   rotate_left
   · simp only [puts_]
     rfl
   refine pu_ (i := 5) (N := 17) (v := ?_) (a' := ?_) (ar 31 6 []) rfl rfl (any_of HT_.out (by kernel_rfl)) ?_ ?_ ?_
   rotate_left
   · intro w'
     go_simp
     with_reducible rfl
   rotate_left
   · simp only [puts_]
     rfl
   refine pu_ (i := 6) (N := 18) (v := ?_) (a' := ?_) (ar 31 7 []) rfl rfl (any_of HT_.out (by kernel_rfl)) ?_ ?_ ?_
   rotate_left
   · intro w'
     go_simp
     with_reducible rfl
   rotate_left
   · simp only [puts_]
     rfl
   refine pu_ (i := 7) (N := 19) (v := ?_) (a' := ?_) (ar 31 8 []) rfl rfl (any_of HT_.out (by kernel_rfl)) ?_ ?_ ?_
   rotate_left
   · intro w'
     go_simp
     with_reducible rfl
   rotate_left
   · simp only [puts_]
     rfl
   refine pu_ (i := 8) (N := 20) (v := ?_) (a' := ?_) (ar 31 9 []) rfl rfl (any_of HT_.out (by kernel_rfl)) ?_ ?_ ?_
   rotate_left
   · intro w'
     go_simp
     with_reducible rfl
   rotate_left
   · simp only [puts_]
     rfl
   refine pu_ (i := 10) (N := 22) (v := ?_) (a' := ?_) (ar 31 11 [9]) rfl rfl (any_of HT_.out (by kernel_rfl)) ?_ ?_ ?_
   rotate_left
   · intro w'
     go_simp
     with_reducible rfl
   rotate_left
   · simp only [puts_]
     rfl
   refine pu_ (i := 11) (N := 23) (v := ?_) (a' := ?_) (ar 31 12 [9]) rfl rfl (any_of HT_.out (by kernel_rfl)) ?_ ?_ ?_
   rotate_left
   · intro w'
     go_simp
     with_reducible rfl
   rotate_left
   · simp only [puts_]
     rfl
   refine pu_ (i := 12) (N := 24) (v := ?_) (a' := ?_) (ar 31 13 [9]) rfl rfl (any_of HT_.out (by kernel_rfl)) ?_ ?_ ?_
   rotate_left
   · intro w'
     go_simp
     with_reducible rfl
   rotate_left
   · simp only [puts_]
     rfl
   refine pu_ (i := 13) (N := 25) (v := ?_) (a' := ?_) (ar 31 14 [9]) rfl rfl (any_of HT_.out (by kernel_rfl)) ?_ ?_ ?_
   rotate_left
   · intro w'
     go_simp
     with_reducible rfl
   rotate_left
   · simp only [puts_]
     rfl
   refine pu_ (i := 14) (N := 26) (v := ?_) (a' := ?_) (ar 31 15 [9]) rfl rfl (any_of HT_.out (by kernel_rfl)) ?_ ?_ ?_
   rotate_left
   · intro w'
     go_simp
     with_reducible rfl
   rotate_left
   · simp only [puts_]
     rfl
   refine tk_ (i := 9) (N := 21) (v := ?_) (a' := ?_) (ar 31 15 []) rfl rfl (take_ofW HT_.out HW_.out (by kernel_rfl)) ?_ hHeld ?_ ?_
   rotate_left
   · rintro w' ⟨s0, s1, s2, s3, s4, s5, s6, s7⟩
     go_simp
     with_reducible rfl
   rotate_left
   · simp only [puts_]
     rfl
   refine tk_ (i := 15) (N := 27) (v := ?_) (a' := ?_) (ar 31 16 []) rfl rfl (take_ofW HT_.out HW_.out (by kernel_rfl)) ?_ hHeld ?_ ?_
   rotate_left
   · rintro w' ⟨s0, s1, s2, s3, s4, s5, s6, s7⟩
     go_simp
     with_reducible rfl
   rotate_left
   · simp only [puts_]
     rfl
   refine pu_ (i := 16) (N := 28) (v := ?_) (a' := ?_) (ar 31 17 []) rfl rfl (any_of HT_.out (by kernel_rfl)) ?_ ?_ ?_
   rotate_left
   · intro w'
     go_simp
     with_reducible rfl
   rotate_left
   · simp only [puts_]
     rfl
   refine pu_ (i := 17) (N := 29) (v := ?_) (a' := ?_) (ar 31 18 []) rfl rfl (any_of HT_.out (by kernel_rfl)) ?_ ?_ ?_
   rotate_left
   · intro w'
     go_simp
     with_reducible rfl
   rotate_left
   · simp only [puts_]
     rfl
   refine pu_ (i := 18) (N := 30) (v := ?_) (a' := ?_) (ar 31 19 []) rfl rfl (any_of HT_.out (by kernel_rfl)) ?_ ?_ ?_
   rotate_left
   · intro w'
     go_simp
     with_reducible rfl
   rotate_left
   · simp only [puts_]
     rfl
   refine pu_ (i := 19) (N := 31) (v := ?_) (a' := ?_) (ar 31 20 []) rfl rfl (any_of HT_.out (by kernel_rfl)) ?_ ?_ ?_
   rotate_left
   · intro w'
     go_simp
     with_reducible rfl
   rotate_left
   · simp only [puts_]
     rfl
   refine pu_ (i := 20) (N := 32) (v := ?_) (a' := ?_) (ar 31 21 []) rfl rfl (any_of HT_.out (by kernel_rfl)) ?_ ?_ ?_
   rotate_left
   · intro w'
     go_simp
     with_reducible rfl
   rotate_left
   · simp only [puts_]
     rfl
   refine tk_ (i := 21) (N := 33) (v := ?_) (a' := ?_) (ar 31 22 []) rfl rfl (take_ofW HT_.out HW_.out (by kernel_rfl)) ?_ hHeld ?_ ?_
   rotate_left
   · rintro w' ⟨s0, s1, s2, s3, s4, s5, s6, s7⟩
     go_simp
     with_reducible rfl
   rotate_left
   · simp only [puts_]
     rfl
   refine one_ (i := 22) (N := some 34) (ar 31 23 []) rfl rfl (one_of HT_.out (by kernel_rfl)) (by decide) (fun K hK => ?_)
   refine goes_ Try.func56 (by kernel_rfl) rfl #[.int .i64 ((rd_T68 l0 x7_1).f1), .int .i64 0, .int .i64 100] (by rfl) rfl rfl (by (try simp only [am_]); first | done | rfl) ?_
   with_reducible refine (impl_InRange.calls ((rd_T68 l0 x7_1).f1) 0 100 true _ A16.out).mono ?_
   rintro e w' ⟨rfl, ⟨nd, rfl⟩⟩
   refine ⟨_, rfl, ?_⟩
   refine hK.out _ _ ⟨(blk_cell BK111.out 0).trans rfl, (blk_cell BK111.out 1).trans rfl, (blk_cell BK111.out 2).trans rfl, (blk_cell BK111.out 3).trans rfl, ((cel HB.out hw113_0 :)), ((cel HB.out hw113_1 :)), ((cel HB.out hw113_2 :)), ((cel HB.out hw113_3 :))⟩ (fun hHeld => ?_)
   clear hK K
   refine norm_ (a' := ?_) ?_ ?_
   rotate_left
   · show Act.put _ (some 34) _ = _
     simp only [puts_]
     rfl
   refine pu_ (i := 23) (N := 35) (v := ?_) (a' := ?_) (ar 31 24 []) rfl rfl (any_of HT_.out (by kernel_rfl)) ?_ ?_ ?_
   rotate_left
   · intro w'
     go_simp
     with_reducible rfl
   rotate_left
   · simp only [puts_]
     rfl
   refine pu_ (i := 24) (N := 36) (v := ?_) (a' := ?_) (ar 31 25 []) rfl rfl (any_of HT_.out (by kernel_rfl)) ?_ ?_ ?_
   rotate_left
   · intro w'
     go_simp
     with_reducible rfl
   rotate_left
   · simp only [puts_]
     rfl
   refine pu_ (i := 25) (N := 37) (v := ?_) (a' := ?_) (ar 31 26 []) rfl rfl (any_of HT_.out (by kernel_rfl)) ?_ ?_ ?_
   rotate_left
   · intro w'
     go_simp
     with_reducible rfl
   rotate_left
   · simp only [puts_]
     rfl
   refine pu_ (i := 26) (N := 38) (v := ?_) (a' := ?_) (ar 31 27 []) rfl rfl (any_of HT_.out (by kernel_rfl)) ?_ ?_ ?_
   rotate_left
   · intro w'
     go_simp
     with_reducible rfl
   rotate_left
   · simp only [puts_]
     rfl
   refine tk_ (i := 27) (N := 39) (v := ?_) (a' := ?_) (ar 31 28 []) rfl rfl (take_ofW HT_.out HW_.out (by kernel_rfl)) ?_ hHeld ?_ ?_
   rotate_left
   · rintro w' ⟨s0, s1, s2, s3, s4, s5, s6, s7⟩
     go_simp
     with_reducible rfl
   rotate_left
   · simp only [puts_]
     rfl
   refine one_ (i := 28) (N := some 40) (ar 31 29 []) rfl rfl (one_of HT_.out (by kernel_rfl)) (by decide) (fun K hK => ?_)
   refine goes_ Try.func56 (by kernel_rfl) rfl #[.int .i64 ((rd_T68 l0 x7_1).f2), .int .i64 1, .int .i64 10] (by rfl) rfl rfl (by (try simp only [am_]); first | done | rfl) ?_
   with_reducible refine (impl_InRange.calls ((rd_T68 l0 x7_1).f2) 1 10 false _ A18.out).mono ?_
   rintro e w' ⟨rfl, ⟨nd, rfl⟩⟩
   refine ⟨_, rfl, ?_⟩
   refine hK.out _ _ ⟨(blk_cell BK111.out 0).trans rfl, (blk_cell BK111.out 1).trans rfl, (blk_cell BK111.out 2).trans rfl, (blk_cell BK111.out 3).trans rfl, ((cel HB.out hw113_0 :)), ((cel HB.out hw113_1 :)), ((cel HB.out hw113_2 :)), ((cel HB.out hw113_3 :))⟩ (fun hHeld => ?_)
   clear hK K
   refine norm_ (a' := ?_) ?_ ?_
   rotate_left
   · show Act.put _ (some 40) _ = _
     simp only [puts_]
     rfl
   refine pu_ (i := 29) (N := 41) (v := ?_) (a' := ?_) (ar 31 30 []) rfl rfl (any_of HT_.out (by kernel_rfl)) ?_ ?_ ?_
   rotate_left
   · intro w'
     go_simp
     with_reducible rfl
   rotate_left
   · simp only [puts_]
     rfl
   refine pu_ (i := 30) (N := 42) (v := ?_) (a' := ?_) (ar 31 31 []) rfl rfl (any_of HT_.out (by kernel_rfl)) ?_ ?_ ?_
   rotate_left
   · intro w'
     go_simp
     with_reducible rfl
   rotate_left
   · simp only [puts_]
     rfl
   refine done_ (done_of HT_.out (by kernel_rfl)) ?_
   try go_wp2
   go_ret
   exact ⟨by first | rfl | (simp [errW_none, errW_some] <;> rfl) | (simp only [← hji8]; first | rfl | (simp [errW_none, errW_some] <;> rfl)) | (simp [*, errW_none, errW_some] <;> rfl), below_up HB.out⟩

end Go.Proofs.Ytdgpnmbmnnmdcaa.PFnRopes
