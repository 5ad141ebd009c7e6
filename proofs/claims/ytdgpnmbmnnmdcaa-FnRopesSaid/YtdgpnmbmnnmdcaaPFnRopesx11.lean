/- Contracts of Go functions: what print.sh prints, written shorter by low.py. -/
import Derived.Test.YtdgpnmbmnnmdcaaLow
import Derived.Test.YtdgpnmbmnnmdcaaUp
import Derived.Test.YtdgpnmbmnnmdcaaPFnRopesx0
import Derived.Test.YtdgpnmbmnnmdcaaPFnRopesx9
import Derived.Test.YtdgpnmbmnnmdcaaPFnRopesx10
namespace Go.Proofs.Ytdgpnmbmnnmdcaa.PFnRopes
open Go.RowKit Go.Proofs.YtdgpnmbmnnmdcaaW.PrintWords Go.Proofs.YtdgpnmbmnnmdcaaW.PrintLast Go.Proofs.YtdgpnmbmnnmdcaaW.PrintMore
attribute [local go_sem] max2_int min2_int max_two min_two max_three min_three max_four min_four   -- for this text's walks alone
set_option linter.unusedVariables false
set_option linter.unusedSimpArgs false

/-! ### spec_l5From: function 89 -/
mutual
def spec_l5From.l0 : Nat → Int → List Int → Int → Int → Int → List Int → Option (List Int)
 | 0, _, _, _, _, _, _ => none
 | k + 1, x1, x5, x6, x442000, x442001, x442002 => if x6 < (x442002.length : Int) then (if x5.length < 17592186044416 then (spec_l5From.l0 k x1 (x5 ++ [(-1)]) (wrap64 (x6 + 1)) x442000 x442001 x442002) else (none)) else (if 0 ≤ x1 then (if x1 < (x5.length : Int) then (spec_l5From.l1 k (x5.set (x1 : Int).toNat 0) (([x1] : List Int)) 0 x442000 x442001 x442002) else (none)) else (none))
def spec_l5From.l1 : Nat → List Int → List Int → Int → Int → Int → List Int → Option (List Int)
 | 0, _, _, _, _, _, _ => none
 | k + 1, x5, x7, x8, x442000, x442001, x442002 => if x8 < (x7.length : Int) then (if 0 ≤ x8 then ((spec_l4Near.f k x442000 x442001 x442002 (rd x7 x8)).bind fun t453 => (spec_l5From.l2 k x5 x7 x8 t453 0 x442000 x442001 x442002)) else (none)) else (some x5)
def spec_l5From.l2 : Nat → List Int → List Int → Int → List Int → Int → Int → Int → List Int → Option (List Int)
 | 0, _, _, _, _, _, _, _, _ => none
 | k + 1, x5, x7, x8, x9, x10, x442000, x442001, x442002 => if x10 < (x9.length : Int) then (if 0 ≤ x10 then (if 0 ≤ (rd x9 x10) then (if (rd x9 x10) < (x5.length : Int) then (if (rd x5 (rd x9 x10)) < 0 then (if 0 ≤ x8 then (if x8 < (x7.length : Int) then (if 0 ≤ (rd x7 x8) then (if (rd x7 x8) < (x5.length : Int) then (if x7.length < 17592186044416 then (spec_l5From.l2 k (x5.set ((rd x9 x10) : Int).toNat (wrap64 ((rd x5 (rd x7 x8)) + 1))) (x7 ++ [rd x9 x10]) x8 x9 (wrap64 (x10 + 1)) x442000 x442001 x442002) else (none)) else (none)) else (none)) else (none)) else (none)) else (spec_l5From.l2 k x5 x7 x8 x9 (wrap64 (x10 + 1)) x442000 x442001 x442002)) else (none)) else (none)) else (none)) else (spec_l5From.l1 k x5 x7 (wrap64 (x8 + 1)) x442000 x442001 x442002)
end
def spec_l5From.f (k : Nat) (a0_0 : Int) (a0_1 : Int) (l0_2 : List Int) (a1 : Int) : Option (List Int) := spec_l5From.l0 k a1 (([] : List Int)) 0 a0_0 a0_1 l0_2
theorem spec_l5From.mono_l : ∀ k, (∀ y0 y1 y2 y3 y4 y5, LeO (spec_l5From.l0 k y0 y1 y2 y3 y4 y5) (spec_l5From.l0 (k + 1) y0 y1 y2 y3 y4 y5)) ∧ (∀ y0 y1 y2 y3 y4 y5, LeO (spec_l5From.l1 k y0 y1 y2 y3 y4 y5) (spec_l5From.l1 (k + 1) y0 y1 y2 y3 y4 y5)) ∧ (∀ y0 y1 y2 y3 y4 y5 y6 y7, LeO (spec_l5From.l2 k y0 y1 y2 y3 y4 y5 y6 y7) (spec_l5From.l2 (k + 1) y0 y1 y2 y3 y4 y5 y6 y7))
 | 0 => ⟨fun _ _ _ _ _ _ r h => by simp [spec_l5From.l0] at h, fun _ _ _ _ _ _ r h => by simp [spec_l5From.l1] at h, fun _ _ _ _ _ _ _ _ r h => by simp [spec_l5From.l2] at h⟩
 | k + 1 => by
  obtain ⟨ih0, ih1, ih2⟩ := spec_l5From.mono_l k
  refine ⟨?_, ?_, ?_⟩
  · intro y0 y1 y2 y3 y4 y5
    unfold spec_l5From.l0
    repeat' first
    | (with_reducible exact ih0 _ _ _ _ _ _)
    | (with_reducible exact ih1 _ _ _ _ _ _)
    | (with_reducible exact ih2 _ _ _ _ _ _ _ _)
    | (with_reducible exact spec_l4Near.mono _ _ _ _ _)
    | (with_reducible exact LeO.refl _)
    | (with_reducible exact LeO.none _)
    | (with_reducible refine LeO.ite ?_ ?_)
    | (with_reducible refine LeO.bind ?_ (fun _ => ?_))
    | exact ih0 _ _ _ _ _ _
    | exact ih1 _ _ _ _ _ _
    | exact ih2 _ _ _ _ _ _ _ _
    | exact spec_l4Near.mono _ _ _ _ _
    | exact LeO.none _
    | refine LeO.ite ?_ ?_
    | refine LeO.bind ?_ (fun _ => ?_)
  · intro y0 y1 y2 y3 y4 y5
    unfold spec_l5From.l1
    repeat' first
    | (with_reducible exact ih0 _ _ _ _ _ _)
    | (with_reducible exact ih1 _ _ _ _ _ _)
    | (with_reducible exact ih2 _ _ _ _ _ _ _ _)
    | (with_reducible exact spec_l4Near.mono _ _ _ _ _)
    | (with_reducible exact LeO.refl _)
    | (with_reducible exact LeO.none _)
    | (with_reducible refine LeO.ite ?_ ?_)
    | (with_reducible refine LeO.bind ?_ (fun _ => ?_))
    | exact ih0 _ _ _ _ _ _
    | exact ih1 _ _ _ _ _ _
    | exact ih2 _ _ _ _ _ _ _ _
    | exact spec_l4Near.mono _ _ _ _ _
    | exact LeO.none _
    | refine LeO.ite ?_ ?_
    | refine LeO.bind ?_ (fun _ => ?_)
  · intro y0 y1 y2 y3 y4 y5 y6 y7
    unfold spec_l5From.l2
    repeat' first
    | (with_reducible exact ih0 _ _ _ _ _ _)
    | (with_reducible exact ih1 _ _ _ _ _ _)
    | (with_reducible exact ih2 _ _ _ _ _ _ _ _)
    | (with_reducible exact spec_l4Near.mono _ _ _ _ _)
    | (with_reducible exact LeO.refl _)
    | (with_reducible exact LeO.none _)
    | (with_reducible refine LeO.ite ?_ ?_)
    | (with_reducible refine LeO.bind ?_ (fun _ => ?_))
    | exact ih0 _ _ _ _ _ _
    | exact ih1 _ _ _ _ _ _
    | exact ih2 _ _ _ _ _ _ _ _
    | exact spec_l4Near.mono _ _ _ _ _
    | exact LeO.none _
    | refine LeO.ite ?_ ?_
    | refine LeO.bind ?_ (fun _ => ?_)
theorem spec_l5From.mono : ∀ a0 a1 a2 a3 k, LeO (spec_l5From.f k a0 a1 a2 a3) (spec_l5From.f (k + 1) a0 a1 a2 a3) := by
 intro a0 a1 a2 a3 k
 obtain ⟨ih0, ih1, ih2⟩ := spec_l5From.mono_l k
 unfold spec_l5From.f
 repeat' first
  | (with_reducible exact ih0 _ _ _ _ _ _)
  | (with_reducible exact ih1 _ _ _ _ _ _)
  | (with_reducible exact ih2 _ _ _ _ _ _ _ _)
  | (with_reducible exact spec_l4Near.mono _ _ _ _ _)
  | (with_reducible exact LeO.refl _)
  | (with_reducible exact LeO.none _)
  | (with_reducible refine LeO.ite ?_ ?_)
  | (with_reducible refine LeO.bind ?_ (fun _ => ?_))
  | exact ih0 _ _ _ _ _ _
  | exact ih1 _ _ _ _ _ _
  | exact ih2 _ _ _ _ _ _ _ _
  | exact spec_l4Near.mono _ _ _ _ _
  | exact LeO.none _
  | refine LeO.ite ?_ ?_
  | refine LeO.bind ?_ (fun _ => ?_)
def spec_l5From.T16 : Bool × List (List Nat × List Nat) := (true, [([], []), ([], []), ([], []), ([1, 2], [1, 2]), ([3], [3]), ([], []), ([], []), ([], []), ([6, 7], [6, 7]), ([8], [8]), ([5, 9], [5, 9]), ([10], [10]), ([11], [11]), ([0, 4, 0, 1, 2, 3, 4, 5, 6, 7, 8, 9, 10, 11, 12], [0, 4]), ([13, 12, 0, 1, 2, 3, 4, 5, 6, 7, 8, 9, 10, 11, 12], [12, 13])])
def spec_l5From.B16 : List Nat := [0, 0, 0, 6, 14, 0, 0, 0, 192, 448, 992, 2016, 4064, 8191, 16383]
theorem spec_l5From.tab16 : rtab .any (opsOf Try.f89 16) = spec_l5From.T16 := by kernel_rfl
theorem spec_l5From.bits16 : waitsOk spec_l5From.T16.2 spec_l5From.B16 = true := by kernel_rfl
set_option maxHeartbeats 8000000 in
set_option maxRecDepth 100000 in
theorem spec_l5From.calls (k : Nat) (a0_0 : Int) (a0_1 : Int) (A0_2 : Option Addr) (c0_2 : Nat) (l0_2 : List Int) (a1 : Int) (r : List Int) (w : World) (hr0_2 : Kd.C (Kd.int .i64) w A0_2 l0_2.length l0_2) (hc0_2 : l0_2.length ≤ c0_2) (h : spec_l5From.f k a0_0 a0_1 l0_2 a1 = some r) :
 Calls Try.prog 89 #[.agg #[.int .i64 a0_0, .int .i64 a0_1, .slice A0_2 l0_2.length c0_2], .int .i64 a1] w fun e w' => ∃ v0_ : Value, e = .returned (v0_) ∧ Kd.R (Kd.int .i64) 3 w' w.heap.size (fun _ => True) v0_ r ∧ Below w.heap.size w w' := by
 have hu43 := Try.underlying43
 have HR0_2 := Aside0.mk hr0_2
 have HC0_2 := Aside0.mk hc0_2
 clear hr0_2 hc0_2
 have HB := Aside0.mk (Below.refl w.heap.size w)
 have H : (spec_l5From.l0 k a1 (([] : List Int)) 0 a0_0 a0_1 l0_2) = some r := h
 clear h
 obtain ⟨y442, hy442⟩ : ∃ y_ : List Int, y_ = (([] : List Int)) := ⟨_, rfl⟩
 replace H : (spec_l5From.l0 k a1 y442 0 a0_0 a0_1 l0_2) = some r := by first | (rw [hy442]; with_reducible exact H) | (have H2_ := (Option.bind_some _ _).symm.trans H; rw [hy442]; with_reducible exact H2_) | (have H2_ := (Option.bind_some _ _).symm.trans H; with_reducible exact H2_) | with_reducible exact H | (rw [hy442]; exact H) | exact H
 have Ny442 := Aside0.mk hy442
 clear hy442
 have H' := Aside0.mk H
 clear H
 go_enter Try.func89, Try.ntmps89
 go_wp2_with (first | ((with_reducible refine gate_dst (N := 2) rfl ?_); refine box_event ?hg (N := 2) ?hd (cs := #[.int .i64 a0_0, .int .i64 a0_1, .slice A0_2 l0_2.length c0_2]) (t := 43) ?hr ?_; (case hd => rfl); (case hg => rfl); (case hr => first | (go_simp; done) | (go_simp; rfl)); intro gb441 hg w3 hbox hb; have n0_ := Aside0.mk (below_step (below_up HB.out) hb); have n1_ := Aside0.mk (hbox); have n2_ := Aside0.mk (szle hg HB.out); have n3_ := Aside0.mk (szle hg HB.out); replace HB := n0_; have BK441 := n1_; have GW441 := n2_; have GE441 := n3_; clear n0_ n1_ n2_ n3_; clear hb hbox hg) | ((with_reducible refine gate_dst (N := 11) rfl ?_); refine Kd.R_lit (Kd.int .i64) _ 3 ?hg (N := 11) ?hd (xs := ([] : List Int)) (inner := []) (ok := fun _ => True) (okp := fun _ => True) ?hr ?hp (fun _ hk => hk) trivial (Below.refl _ _) (Nat.le_refl _) (by simp) ?_; (case hd => rfl); (case hg => rfl); (case hr => first | (go_simp; done) | (go_simp; rfl)); (case hp => exact (Reps.none _ _)); intro v443 w4 ho5 hb hg_ hnew_; clear hg_ hnew_; (first | rw [← Ny442.out] at ho5 | (simp only [Int.reduceToNat] at ho5; rw [← Ny442.out] at ho5)); have n0_ := Aside0.mk (Kd.R_lower ho5 (below_size (below_up HB.out))); have n1_ := Aside0.mk (blk_below (blk_up BK441.out) hb); have n2_ := Aside0.mk (below_step (below_up HB.out) hb); have HO444 := n0_; replace BK441 := n1_; replace HB := n2_; clear n0_ n1_ n2_; clear hb ho5))
 go_loopg [5, 6] k (fun kq v5 v6 w' => ∃ (x5_1 : List Int) (x6_1 : Int), v6 = .int .i64 x6_1 ∧ Aside0 (spec_l5From.l0 kq a1 x5_1 x6_1 a0_0 a0_1 l0_2 = some r) ∧ Aside0 (kq ≤ k) ∧ Aside0 (Kd.R (Kd.int .i64) 3 w' w.heap.size (fun _ => True) v5 x5_1) ∧ Aside0 (w'.heap[gb441]? = some (.cells #[.int .i64 a0_0, .int .i64 a0_1, (.slice A0_2 l0_2.length c0_2)] 43 (0, 0))) ∧ Aside0 (Below w.heap.size w w'))
 case atStart => exact ⟨(y442), (0), (by first | rfl | (simp; done) | (simp [*]; done)), H', ⟨Nat.le_refl _⟩, ⟨by (with_reducible repeat (first | apply Kd.R_alloc | apply Kd.R_drewN | apply Kd.R_drew)); exact HO444.out⟩, ⟨by (with_reducible repeat (first | refine blk_drewN ?_ _ | refine blk_drew ?_ | refine blk_alloc ?_ _)); exact BK441.out⟩, ⟨below_up HB.out⟩⟩
 case round =>
  clear H'
  try clear p2
  obtain ⟨x5_1, x6_1, rfl, HA, HK1, HO_5, BK441, HB⟩ := hrel
  cases gk with
  | zero => exact absurd HA.out (by simp [spec_l5From.l0])
  | succ k1 =>
   have H := HA.out
   clear HA
   simp only [spec_l5From.l0] at H
   by_cases c6 : x6_1 < (l0_2.length : Int)
   · rw [if_pos c6] at H
     have c6b0 : decide (x6_1 < (l0_2.length : Int)) = true := decide_eq_true c6
     clear c6
     by_cases c7 : x5_1.length < 17592186044416
     rotate_left
     · rw [if_neg c7] at H
       exact absurd H (by simp)
     rw [if_pos c7] at H
     have LMc7 := Aside0.mk c7
     clear c7
     obtain ⟨y445, hy445⟩ : ∃ y_ : List Int, y_ = (x5_1 ++ [(-1)]) := ⟨_, rfl⟩
     replace H : (spec_l5From.l0 k1 a1 y445 (wrap64 (x6_1 + 1)) a0_0 a0_1 l0_2) = some r := by first | (rw [hy445]; with_reducible exact H) | (have H2_ := (Option.bind_some _ _).symm.trans H; rw [hy445]; with_reducible exact H2_) | (have H2_ := (Option.bind_some _ _).symm.trans H; with_reducible exact H2_) | with_reducible exact H | (rw [hy445]; exact H) | exact H
     have Ny445 := Aside0.mk hy445
     clear hy445
     have H' := Aside0.mk H
     clear H
     obtain ⟨hcz8_0, hcz8_1, hcz8_2⟩ := cells3_ BK441.out
     obtain ⟨hfz8_0, hfz8_1, hfz8_2⟩ := frz3_ BK441.out
     go_wp2_with (first | ((with_reducible refine gate_builtin (b := .append) (xs := #[.tmp 19, .tmp 20]) rfl ?_); at_builtin; refine Kd.R_append (Kd.int .i64) (w0 := w) w.heap.size rfl (.tmp 19) (.tmp 20) 36 3 (.int .i64 0) 8 rfl Try.underlying36 info3 rfl (by decide) (by omega) u5 x5_1 (-1) [.int .i64 (-1)] (fun _ => True) (fun _ => False) rfl rfl ?aP (fun _ hk => hk.elim) ?aF ?aO ?aB ?aS ?aL ?_; (case aP => exact rfl); (case aB => exact (below_up HB.out)); (case aF => exact (fun _ _ => trivial)); (case aO => exact (by (with_reducible repeat (first | apply Kd.R_alloc | apply Kd.R_drewN | apply Kd.R_drew)); exact HO_5.out)); (case aS => exact (below_size (below_up HB.out))); (case aL => have := LMc7.out; omega); intro v446 w9 ho hb hg hat; rw [← Ny445.out] at ho; have n0_ := Aside0.mk (blk_grown (blk_up BK441.out) hg (Kd.R_ne HO_5.out BK441.out (by decide))); have n1_ := Aside0.mk (hb); have n2_ := Aside0.mk (ho); clear BK441; clear HB; clear HO_5; have BK441 := n0_; have HB := n1_; have HO447 := n2_; clear n0_ n1_ n2_; clear ho hb hg hat))
     go_roundg k1
     case measure => have := HK1.out; omega
     case rel => exact ⟨(y445), (wrap64 (x6_1 + 1)), (by first | rfl | (simp; done) | (simp [*]; done)), H', ⟨by have := HK1.out; omega⟩, ⟨by (with_reducible repeat (first | apply Kd.R_alloc | apply Kd.R_drewN | apply Kd.R_drew)); exact HO447.out⟩, ⟨by (with_reducible repeat (first | refine blk_drewN ?_ _ | refine blk_drew ?_ | refine blk_alloc ?_ _)); exact BK441.out⟩, ⟨below_up HB.out⟩⟩
   rw [if_neg c6] at H
   have c6b0 : decide (x6_1 < (l0_2.length : Int)) = false := decide_eq_false c6
   clear c6
   by_cases c10 : 0 ≤ a1
   rotate_left
   · rw [if_neg c10] at H
     exact absurd H (by simp)
   rw [if_pos c10] at H
   have c10b0 : decide (0 ≤ a1) = true := decide_eq_true c10
   clear c10
   by_cases c11 : a1 < (x5_1.length : Int)
   rotate_left
   · rw [if_neg c11] at H
     exact absurd H (by simp)
   rw [if_pos c11] at H
   have c11b0 : decide (a1 < (x5_1.length : Int)) = true := decide_eq_true c11
   clear c11
   obtain ⟨y448, hy448⟩ : ∃ y_ : List Int, y_ = (x5_1.set (a1 : Int).toNat 0) := ⟨_, rfl⟩
   replace H : (spec_l5From.l1 k1 y448 (([a1] : List Int)) 0 a0_0 a0_1 l0_2) = some r := by first | (rw [hy448]; with_reducible exact H) | (have H2_ := (Option.bind_some _ _).symm.trans H; rw [hy448]; with_reducible exact H2_) | (have H2_ := (Option.bind_some _ _).symm.trans H; with_reducible exact H2_) | with_reducible exact H | (rw [hy448]; exact H) | exact H
   have Ny448 := Aside0.mk hy448
   clear hy448
   obtain ⟨y449, hy449⟩ : ∃ y_ : List Int, y_ = (([a1] : List Int)) := ⟨_, rfl⟩
   replace H : (spec_l5From.l1 k1 y448 y449 0 a0_0 a0_1 l0_2) = some r := by first | (rw [hy449]; with_reducible exact H) | (have H2_ := (Option.bind_some _ _).symm.trans H; rw [hy449]; with_reducible exact H2_) | (have H2_ := (Option.bind_some _ _).symm.trans H; with_reducible exact H2_) | with_reducible exact H | (rw [hy449]; exact H) | exact H
   have Ny449 := Aside0.mk hy449
   clear hy449
   have H' := Aside0.mk H
   clear H
   obtain ⟨hcz13_0, hcz13_1, hcz13_2⟩ := cells3_ BK441.out
   obtain ⟨hfz13_0, hfz13_1, hfz13_2⟩ := frz3_ BK441.out
   have p12 : 0 ≤ (a1 : Int) := of_decide_eq_true (by first | (with_reducible assumption) | assumption)
   have q12 : (a1 : Int) < ((x5_1.length : Int) : Int) := of_decide_eq_true (by first | (with_reducible assumption) | assumption)
   obtain ⟨go12, co12, eo12, gb12, gl12, cl12, HG12⟩ := Kd.R_form HO_5.out (by omega)
   (first | cases eo12 | (injection eo12 with ea_ en_ ec_; (first | subst ea_ | (injection ea_ with ea_; subst ea_)); subst ec_; clear en_))
   have GB12 := Aside0.mk gb12
   have GG12 := Aside0.mk HG12
   clear gb12 gl12 HG12
   obtain ⟨hx12_0, hf12_0⟩ := Kd.R_celln 0 HO_5.out (a1 : Int) p12 q12
   replace p12 := eq_true p12
   replace q12 := eq_true q12
   have HP14 := Kd.R_putg HO_5.out (a1 : Int) 0
   go_wp2_with (first | ((with_reducible refine gate_store (t := 3) (p := 24) rfl ?_); refine store_event (t := 3) (p := 24) (v := ?vo_w15) (w1 := (wr.setCell ⟨go12, (a1 : Int).toNat, none⟩ (.int .i64 0))) ?hg ?ho ?hn ?hr ?_; (case ho => rfl); (case hg => rfl); (case hn => rfl); (case hr => first | (go_simp; done) | (go_simp; rfl)); intro w15 hw; have hg : wr.grownBy w15 (some go12) := (by rw [hw]; exact HP14.2); have hp_ : Kd.R (Kd.int .i64) 3 w15 w.heap.size (fun _ => True) (.slice (some ⟨go12, 0, none⟩) x5_1.length co12) y448 := (by rw [hw, Ny448.out]; exact HP14.1); clear HP14; have n0_ := Aside0.mk (hp_); have n1_ := Aside0.mk (blk_grown (blk_up BK441.out) hg (Kd.R_ne HO_5.out BK441.out (by decide))); have n2_ := Aside0.mk ((by rw [hw]; exact below_set (HB.out) GB12.out : Below w.heap.size w w15)); replace HO_5 := n0_; replace BK441 := n1_; replace HB := n2_; clear n0_ n1_ n2_; clear hg hw hp_) | ((with_reducible refine gate_dst (N := 26) rfl ?_); refine Kd.R_lit (Kd.int .i64) _ 3 ?hg (N := 26) ?hd (xs := ([a1] : List Int)) (inner := [.int .i64 a1]) (ok := fun _ => True) (okp := fun _ => True) ?hr ?hp (fun _ hk => hk) trivial (Below.refl _ _) (Nat.le_refl _) (by simp) ?_; (case hd => rfl); (case hg => rfl); (case hr => first | (go_simp; done) | (go_simp; rfl)); (case hp => exact (Reps.one (show Kd.M (Kd.int .i64) _ _ _ a1 [.int .i64 a1] from rfl) (Reps.none _ _))); intro v450 w16 ho17 hb hg_ hnew_; clear hg_ hnew_; (first | rw [← Ny449.out] at ho17 | (simp only [Int.reduceToNat] at ho17; rw [← Ny449.out] at ho17)); have n0_ := Aside0.mk (Kd.R_elder' (Kd.R_up HO_5.out) (Kd.R_base ho17) hb); have n1_ := Aside0.mk (Kd.R_lower (Kd.R_new' ho17 (Kd.R_lt (Kd.R_up HO_5.out))) (below_size (below_up HB.out))); have n2_ := Aside0.mk (blk_below (blk_up BK441.out) hb); have n3_ := Aside0.mk (below_step (below_up HB.out) hb); replace HO_5 := n0_; have HO451 := n1_; replace BK441 := n2_; replace HB := n3_; clear n0_ n1_ n2_ n3_; clear hb ho17))
   go_loopg [7, 8] k1 (fun kq v7 v8 w' => ∃ (x5_2 : List Int) (x7_2 : List Int) (x8_2 : Int), v8 = .int .i64 x8_2 ∧ Aside0 (spec_l5From.l1 kq x5_2 x7_2 x8_2 a0_0 a0_1 l0_2 = some r) ∧ Aside0 (kq ≤ k1) ∧ Aside0 (Kd.R (Kd.int .i64) 3 w' w.heap.size (fun k_ => some k_ ≠ (v7 : Value).ownBlock) (.slice (some ⟨go12, 0, none⟩) x5_1.length co12) x5_2) ∧ Aside0 (Kd.R (Kd.int .i64) 3 w' w.heap.size (fun k_ => some k_ ≠ ((.slice (some ⟨go12, 0, none⟩) x5_1.length co12) : Value).ownBlock) v7 x7_2) ∧ Aside0 (w'.heap[gb441]? = some (.cells #[.int .i64 a0_0, .int .i64 a0_1, (.slice A0_2 l0_2.length c0_2)] 43 (0, 0))) ∧ Aside0 (Below w.heap.size w w'))
   case atStart => exact ⟨(y448), (y449), (0), (by first | rfl | (simp; done) | (simp [*]; done)), H', ⟨Nat.le_refl _⟩, ⟨by (with_reducible repeat (first | apply Kd.R_alloc | apply Kd.R_drewN | apply Kd.R_drew)); exact Kd.R_mono HO_5.out (fun _ hk => hk.2)⟩, ⟨by (with_reducible repeat (first | apply Kd.R_alloc | apply Kd.R_drewN | apply Kd.R_drew)); exact Kd.R_mono HO451.out (fun _ hk => hk.2)⟩, ⟨by (with_reducible repeat (first | refine blk_drewN ?_ _ | refine blk_drew ?_ | refine blk_alloc ?_ _)); exact BK441.out⟩, ⟨below_up HB.out⟩⟩
   case round =>
    clear H'
    try clear c1
    try clear p1
    try clear q1
    try clear hx1
    try clear p2
    try clear c6
    try clear c6b0
    try clear p6
    try clear c7
    try clear c8
    try clear c10
    try clear c10b0
    try clear c11
    try clear c11b0
    try clear p12
    try clear q12
    try clear hx12
    try clear hf12
    try clear hcz13_0
    try clear hcz13_1
    try clear hcz13_2
    try clear hcz8_0
    try clear hcz8_1
    try clear hcz8_2
    try clear hfz13_0
    try clear hfz13_1
    try clear hfz13_2
    try clear hfz8_0
    try clear hfz8_1
    try clear hfz8_2
    try clear hx12_0
    try clear p12
    try clear p2
    try clear q12
    obtain ⟨x5_2, x7_2, x8_2, rfl, HA, HK2, HO_5, HO_7, BK441, HB⟩ := hrel
    have hl5_2 := (Kd.R_reads' HO_5.out).1
    rw [hl5_2] at HO_5
    (try simp only [hl5_2])
    (try simp only [hl5_2] at BK441)
    (try simp only [hl5_2] at HO_7)
    cases gk with
    | zero => exact absurd HA.out (by simp [spec_l5From.l1])
    | succ k2 =>
     have H := HA.out
     clear HA
     simp only [spec_l5From.l1] at H
     by_cases c18 : x8_2 < (x7_2.length : Int)
     rotate_left
     · rw [if_neg c18] at H
       have c18b0 : decide (x8_2 < (x7_2.length : Int)) = false := decide_eq_false c18
       clear c18
       obtain rfl := Option.some.inj H
       obtain ⟨Ao42, co42, eo42⟩ := Kd.R_slice HO_7.out
       subst eo42
       go_wp2
       go_ret
       exact ⟨_, by first | rfl | (simp [errW_none, errW_some] <;> rfl) | (simp [*, errW_none, errW_some] <;> rfl), by (with_reducible repeat (first | apply Kd.R_alloc | apply Kd.R_drewN | apply Kd.R_drew)); exact Kd.R_mono HO_5.out (fun _ hk => trivial), below_up HB.out⟩
     rw [if_pos c18] at H
     have c18b0 : decide (x8_2 < (x7_2.length : Int)) = true := decide_eq_true c18
     clear c18
     by_cases c19 : 0 ≤ x8_2
     rotate_left
     · rw [if_neg c19] at H
       exact absurd H (by simp)
     rw [if_pos c19] at H
     have c19b0 : decide (0 ≤ x8_2) = true := decide_eq_true c19
     clear c19
     replace H := Option.bind_eq_some_iff.mp H
     obtain ⟨t453, A200, H⟩ := H
     have A20 := Aside0.mk A200
     clear A200
     have H' := Aside0.mk H
     clear H
     obtain ⟨Ao21, co21, eo21⟩ := Kd.R_slice HO_7.out
     subst eo21
     try go_wp2
     have n0_ := Aside0.mk (Kd.R_drew HO_5.out)
     have n1_ := Aside0.mk (Kd.R_drew HO_7.out)
     have n2_ := Aside0.mk (blk_drew BK441.out)
     have n3_ := Aside0.mk (below_drew1 HB.out)
     clear HO_5
     clear HO_7
     clear BK441
     clear HB
     have HO_5 := n0_
     have HO_7 := n1_
     have BK441 := n2_
     have HB := n3_
     clear n0_ n1_ n2_ n3_
     have p452 : 0 ≤ (x8_2 : Int) := of_decide_eq_true (by first | (with_reducible assumption) | assumption)
     have q452 : x8_2 < (x7_2.length : Int) := of_decide_eq_true (by first | (with_reducible assumption) | assumption)
     obtain ⟨ad452, e452, hx452_0⟩ := Kd.at_int (Kd.R_reads' HO_7.out).2.2 x8_2 p452 q452
     cases e452
     replace p452 := eq_true p452
     replace q452 := eq_true q452
     refine start_ (n := 7) (S := fun w' => w'.cell? ⟨gb441, 0, none⟩ = some (.int .i64 a0_0) ∧ w'.cell? ⟨gb441, 1, none⟩ = some (.int .i64 a0_1) ∧ w'.cell? ⟨gb441, 2, none⟩ = some (.slice A0_2 l0_2.length c0_2) ∧ w'.cell? (ad452.add (x8_2).toNat) = some (.int .i64 (rd x7_2 x8_2))) (ds := []) (ar 7 0 []) (by kernel_rfl) rfl rfl ⟨(blk_cell BK441.out 0).trans rfl, (blk_cell BK441.out 1).trans rfl, (blk_cell BK441.out 2).trans rfl, hx452_0⟩ (fun hHeld => ?_)
     generalize wr.drew = w22 at HO_5 HO_7 BK441 HB hx452_0 hHeld ⊢
     refine pu_ (i := 1) (N := 34) (v := ?_) (a' := ?_) (ar 7 2 [0]) rfl rfl (by kernel_rfl) ?_ ?_ ?_
     rotate_left
     · intro w'
       go_simp
       with_reducible rfl
     rotate_left
     · simp only [puts_]
       rfl
     refine pu_ (i := 2) (N := 35) (v := ?_) (a' := ?_) (ar 7 3 [0]) rfl rfl (by kernel_rfl) ?_ ?_ ?_
     rotate_left
     · intro w'
       go_simp
       with_reducible rfl
     rotate_left
     · simp only [puts_]
       rfl
     refine pu_ (i := 3) (N := 36) (v := ?_) (a' := ?_) (ar 7 4 [0]) rfl rfl (by kernel_rfl) ?_ ?_ ?_
     rotate_left
     · intro w'
       go_simp
       with_reducible rfl
     rotate_left
     · simp only [puts_]
       rfl
     refine tk_ (i := 0) (N := 33) (v := ?_) (a' := ?_) (ar 7 4 []) rfl rfl (by kernel_rfl) ?_ hHeld ?_ ?_
     rotate_left
     · rintro w' ⟨s0, s1, s2, s3⟩
       go_simp
       with_reducible rfl
     rotate_left
     · simp only [puts_]
       rfl
     refine tk_ (i := 4) (N := 37) (v := ?_) (a' := ?_) (ar 7 5 []) rfl rfl (by kernel_rfl) ?_ hHeld ?_ ?_
     rotate_left
     · rintro w' ⟨s0, s1, s2, s3⟩
       go_simp
       with_reducible rfl
     rotate_left
     · simp only [puts_]
       rfl
     refine one_ (i := 5) (N := some 38) (ar 7 6 []) rfl rfl (by kernel_rfl) (by decide) (fun K hK => ?_)
     refine goes_ Try.func90 (by kernel_rfl) rfl #[.agg #[.int .i64 a0_0, .int .i64 a0_1, .slice A0_2 l0_2.length c0_2], .int .i64 (rd x7_2 x8_2)] (by rfl) rfl rfl (by (try simp only [am_]); first | done | rfl) ?_
     with_reducible refine (spec_l4Near.calls k2 a0_0 a0_1 _ _ l0_2 (rd x7_2 x8_2) t453 _ ?side1 ?side2 A20.out).mono ?_
     (case side1 => exact (Kd.C_below HR0_2.out (below_up HB.out)))
     (case side2 => exact HC0_2.out)
     rintro e w23 ⟨v454, rfl, ho0, hb⟩
     have HS3_ := (hb.cell (World.block_lt_of_cell? _ _ (hHeld.2.2.2))).trans (hHeld.2.2.2)
     refine ⟨_, rfl, ?_⟩
     have n0_ := Aside0.mk (Kd.R_elder' (Kd.R_up HO_5.out) (Kd.R_base ho0) hb)
     have n1_ := Aside0.mk (Kd.R_elder' (Kd.R_up HO_7.out) (Kd.R_base ho0) hb)
     have n2_ := Aside0.mk (Kd.R_lower (Kd.R_new' (Kd.R_new' ho0 (Kd.R_lt (Kd.R_up HO_5.out))) (Kd.R_lt (Kd.R_up HO_7.out))) (below_size (below_up HB.out)))
     have n3_ := Aside0.mk (blk_below (blk_up BK441.out) hb)
     have n4_ := Aside0.mk (below_step (below_up HB.out) hb)
     clear HO_5
     clear HO_7
     clear BK441
     clear HB
     have HO_5 := n0_
     have HO_7 := n1_
     have HO455 := n2_
     have BK441 := n3_
     have HB := n4_
     clear n0_ n1_ n2_ n3_ n4_
     (try clear hb)
     (try clear hb2)
     (try clear hk)
     (try clear hi)
     (try clear ho0)
     refine hK.out _ _ ⟨(blk_cell BK441.out 0).trans rfl, (blk_cell BK441.out 1).trans rfl, (blk_cell BK441.out 2).trans rfl, HS3_⟩ (fun hHeld => ?_)
     clear hK K
     refine norm_ (a' := ?_) ?_ ?_
     rotate_left
     · show Act.put _ (some 38) _ = _
       simp only [puts_]
       rfl
     refine pu_ (i := 6) (N := 9) (v := ?_) (a' := ?_) (ar 7 7 []) rfl rfl (by kernel_rfl) ?_ ?_ ?_
     rotate_left
     · intro w'
       go_simp
       with_reducible rfl
     rotate_left
     · simp only [puts_]
       rfl
     refine done_ (by kernel_rfl) ?_
     try go_wp2
     go_loopg [7, 10] k2 (fun kq v7 v10 w' => ∃ (x5_3 : List Int) (x7_3 : List Int) (x10_3 : Int), v10 = .int .i64 x10_3 ∧ Aside0 (spec_l5From.l2 kq x5_3 x7_3 x8_2 t453 x10_3 a0_0 a0_1 l0_2 = some r) ∧ Aside0 (kq ≤ k2) ∧ Aside0 (Kd.R (Kd.int .i64) 3 w' w.heap.size (fun k_ => some k_ ≠ (v7 : Value).ownBlock ∧ some k_ ≠ (v454 : Value).ownBlock) (.slice (some ⟨go12, 0, none⟩) x5_2.length co12) x5_3) ∧ Aside0 (Kd.R (Kd.int .i64) 3 w' w.heap.size (fun k_ => some k_ ≠ ((.slice (some ⟨go12, 0, none⟩) x5_2.length co12) : Value).ownBlock ∧ some k_ ≠ (v454 : Value).ownBlock) v7 x7_3) ∧ Aside0 (Kd.R (Kd.int .i64) 3 w' w.heap.size (fun k_ => some k_ ≠ ((.slice (some ⟨go12, 0, none⟩) x5_2.length co12) : Value).ownBlock ∧ some k_ ≠ (v7 : Value).ownBlock) v454 t453) ∧ Aside0 (w'.heap[gb441]? = some (.cells #[.int .i64 a0_0, .int .i64 a0_1, (.slice A0_2 l0_2.length c0_2)] 43 (0, 0))) ∧ Aside0 (Below w.heap.size w w'))
     case atStart => exact ⟨(x5_2), (x7_2), (0), (by first | rfl | (simp; done) | (simp [*]; done)), H', ⟨Nat.le_refl _⟩, ⟨by (try simp only [hl5_2]); (with_reducible repeat (first | apply Kd.R_alloc | apply Kd.R_drewN | apply Kd.R_drew)); exact HO_5.out⟩, ⟨by (try simp only [hl5_2]); (with_reducible repeat (first | apply Kd.R_alloc | apply Kd.R_drewN | apply Kd.R_drew)); exact HO_7.out⟩, ⟨by (try simp only [hl5_2]); (with_reducible repeat (first | apply Kd.R_alloc | apply Kd.R_drewN | apply Kd.R_drew)); exact Kd.R_mono HO455.out (fun _ hk => ⟨hk.1.2, hk.2⟩)⟩, ⟨by (try simp only [hl5_2]); (with_reducible repeat (first | refine blk_drewN ?_ _ | refine blk_drew ?_ | refine blk_alloc ?_ _)); exact BK441.out⟩, ⟨below_up HB.out⟩⟩
     case round =>
      clear H'
      try clear c1
      try clear p1
      try clear q1
      try clear hx1
      try clear p2
      try clear p4
      try clear q4
      try clear hx4
      try clear c6
      try clear c6b0
      try clear p6
      try clear c7
      try clear c8
      try clear c9
      try clear c10
      try clear c10b0
      try clear c11
      try clear c11b0
      try clear p12
      try clear q12
      try clear hx12
      try clear hf12
      try clear c18
      try clear c18b0
      try clear c19
      try clear c19b0
      try clear hcz13_0
      try clear hcz13_1
      try clear hcz13_2
      try clear hcz8_0
      try clear hcz8_1
      try clear hcz8_2
      try clear hfz13_0
      try clear hfz13_1
      try clear hfz13_2
      try clear hfz8_0
      try clear hfz8_1
      try clear hfz8_2
      try clear hx12_0
      try clear hx452_0
      try clear p1
      try clear p12
      try clear p2
      try clear p452
      try clear p6
      try clear q1
      try clear q12
      try clear q452
      obtain ⟨x5_3, x7_3, x10_3, rfl, HA, HK3, HO_5, HO_7, HO_9, BK441, HB⟩ := hrel
      have hl5_3 := (Kd.R_reads' HO_5.out).1
      rw [hl5_3] at HO_5
      (try simp only [hl5_3])
      (try simp only [hl5_3] at BK441)
      (try simp only [hl5_3] at HO_7)
      (try simp only [hl5_3] at HO_9)
      cases gk with
      | zero => exact absurd HA.out (by simp [spec_l5From.l2])
      | succ k3 =>
       have H := HA.out
       clear HA
       simp only [spec_l5From.l2] at H
       by_cases c24 : x10_3 < (t453.length : Int)
       rotate_left
       · rw [if_neg c24] at H
         have c24b0 : decide (x10_3 < (t453.length : Int)) = false := decide_eq_false c24
         clear c24
         have H' := Aside0.mk H
         clear H
         obtain ⟨Ao41, co41, eo41⟩ := Kd.R_slice HO_9.out
         subst eo41
         go_wp2
         (try simp only [← hl5_2, ← hl5_3])
         go_roundg k3
         case measure => have := HK1.out; have := HK2.out; have := HK3.out; omega
         case rel => exact ⟨(x5_3), (x7_3), (wrap64 (x8_2 + 1)), (by first | rfl | (simp; done) | (simp [*]; done)), H', ⟨by have := HK1.out; have := HK2.out; have := HK3.out; omega⟩, ⟨by (try simp only [hl5_2]); (try simp only [hl5_3]); (with_reducible repeat (first | apply Kd.R_alloc | apply Kd.R_drewN | apply Kd.R_drew)); exact Kd.R_mono HO_5.out (fun _ hk => hk.1)⟩, ⟨by (try simp only [hl5_2]); (try simp only [hl5_3]); (with_reducible repeat (first | apply Kd.R_alloc | apply Kd.R_drewN | apply Kd.R_drew)); exact Kd.R_mono HO_7.out (fun _ hk => hk.1)⟩, ⟨by (try simp only [hl5_2]); (try simp only [hl5_3]); (with_reducible repeat (first | refine blk_drewN ?_ _ | refine blk_drew ?_ | refine blk_alloc ?_ _)); exact BK441.out⟩, ⟨below_up HB.out⟩⟩
       rw [if_pos c24] at H
       have c24b0 : decide (x10_3 < (t453.length : Int)) = true := decide_eq_true c24
       clear c24
       by_cases c25 : 0 ≤ x10_3
       rotate_left
       · rw [if_neg c25] at H
         exact absurd H (by simp)
       rw [if_pos c25] at H
       have c25b0 : decide (0 ≤ x10_3) = true := decide_eq_true c25
       clear c25
       by_cases c26 : 0 ≤ (rd t453 x10_3)
       rotate_left
       · rw [if_neg c26] at H
         exact absurd H (by simp)
       rw [if_pos c26] at H
       have c26b0 : decide (0 ≤ (rd t453 x10_3)) = true := decide_eq_true c26
       clear c26
       by_cases c27 : (rd t453 x10_3) < (x5_3.length : Int)
       rotate_left
       · rw [if_neg c27] at H
         exact absurd H (by simp)
       rw [if_pos c27] at H
       have c27b0 : decide ((rd t453 x10_3) < (x5_3.length : Int)) = true := decide_eq_true c27
       clear c27
       by_cases c28 : (rd x5_3 (rd t453 x10_3)) < 0
       rotate_left
       · rw [if_neg c28] at H
         have c28b0 : decide ((rd x5_3 (rd t453 x10_3)) < 0) = false := decide_eq_false c28
         clear c28
         have H' := Aside0.mk H
         clear H
         obtain ⟨Ao40, co40, eo40⟩ := Kd.R_slice HO_9.out
         subst eo40
         have p456 : 0 ≤ (x10_3 : Int) := of_decide_eq_true (by first | (with_reducible assumption) | assumption)
         have q456 : x10_3 < (t453.length : Int) := of_decide_eq_true (by first | (with_reducible assumption) | assumption)
         obtain ⟨ad456, e456, hx456_0⟩ := Kd.at_int (Kd.R_reads' HO_9.out).2.2 x10_3 p456 q456
         cases e456
         replace p456 := eq_true p456
         replace q456 := eq_true q456
         have p457 : 0 ≤ ((rd t453 x10_3) : Int) := of_decide_eq_true (by first | (with_reducible assumption) | assumption)
         have q457 : (rd t453 x10_3) < (x5_3.length : Int) := of_decide_eq_true (by first | (with_reducible assumption) | assumption)
         obtain ⟨ad457, e457, hx457_0⟩ := Kd.at_int (Kd.R_reads' HO_5.out).2.2 (rd t453 x10_3) p457 q457
         obtain rfl : (⟨go12, 0, none⟩ : Addr) = ad457 := (by injection e457)
         (first | simp only [add_plain] at hx457_0 | simp only [add_at] at hx457_0 | simp only [Addr.add, Nat.zero_add] at hx457_0 | skip)
         replace p457 := eq_true p457
         replace q457 := eq_true q457
         go_wp2
         (try simp only [← hl5_3])
         go_roundg k3
         case measure => have := HK1.out; have := HK2.out; have := HK3.out; omega
         case rel => exact ⟨(x5_3), (x7_3), (wrap64 (x10_3 + 1)), (by first | rfl | (simp; done) | (simp [*]; done)), H', ⟨by have := HK1.out; have := HK2.out; have := HK3.out; omega⟩, ⟨by (try simp only [hl5_2]); (try simp only [hl5_3]); (with_reducible repeat (first | apply Kd.R_alloc | apply Kd.R_drewN | apply Kd.R_drew)); exact HO_5.out⟩, ⟨by (try simp only [hl5_2]); (try simp only [hl5_3]); (with_reducible repeat (first | apply Kd.R_alloc | apply Kd.R_drewN | apply Kd.R_drew)); exact HO_7.out⟩, ⟨by (try simp only [hl5_2]); (try simp only [hl5_3]); (with_reducible repeat (first | apply Kd.R_alloc | apply Kd.R_drewN | apply Kd.R_drew)); exact HO_9.out⟩, ⟨by (try simp only [hl5_2]); (try simp only [hl5_3]); (with_reducible repeat (first | refine blk_drewN ?_ _ | refine blk_drew ?_ | refine blk_alloc ?_ _)); exact BK441.out⟩, ⟨below_up HB.out⟩⟩
       rw [if_pos c28] at H
       have c28b0 : decide ((rd x5_3 (rd t453 x10_3)) < 0) = true := decide_eq_true c28
       clear c28
       by_cases c29 : 0 ≤ x8_2
       rotate_left
       · rw [if_neg c29] at H
         exact absurd H (by simp)
       rw [if_pos c29] at H
       have c29b0 : decide (0 ≤ x8_2) = true := decide_eq_true c29
       clear c29
       by_cases c30 : x8_2 < (x7_3.length : Int)
       rotate_left
       · rw [if_neg c30] at H
         exact absurd H (by simp)
       rw [if_pos c30] at H
       have c30b0 : decide (x8_2 < (x7_3.length : Int)) = true := decide_eq_true c30
       clear c30
       by_cases c31 : 0 ≤ (rd x7_3 x8_2)
       rotate_left
       · rw [if_neg c31] at H
         exact absurd H (by simp)
       rw [if_pos c31] at H
       have c31b0 : decide (0 ≤ (rd x7_3 x8_2)) = true := decide_eq_true c31
       clear c31
       by_cases c32 : (rd x7_3 x8_2) < (x5_3.length : Int)
       rotate_left
       · rw [if_neg c32] at H
         exact absurd H (by simp)
       rw [if_pos c32] at H
       have c32b0 : decide ((rd x7_3 x8_2) < (x5_3.length : Int)) = true := decide_eq_true c32
       clear c32
       obtain ⟨y461, hy461⟩ : ∃ y_ : List Int, y_ = (x5_3.set ((rd t453 x10_3) : Int).toNat (wrap64 ((rd x5_3 (rd x7_3 x8_2)) + 1))) := ⟨_, rfl⟩
       replace H : (if x7_3.length < 17592186044416 then (spec_l5From.l2 k3 y461 (x7_3 ++ [rd t453 x10_3]) x8_2 t453 (wrap64 (x10_3 + 1)) a0_0 a0_1 l0_2) else (none)) = some r := by first | (rw [hy461]; with_reducible exact H) | (have H2_ := (Option.bind_some _ _).symm.trans H; rw [hy461]; with_reducible exact H2_) | (have H2_ := (Option.bind_some _ _).symm.trans H; with_reducible exact H2_) | with_reducible exact H | (rw [hy461]; exact H) | exact H
       have Ny461 := Aside0.mk hy461
       clear hy461
       by_cases c34 : x7_3.length < 17592186044416
       rotate_left
       · rw [if_neg c34] at H
         exact absurd H (by simp)
       rw [if_pos c34] at H
       have LMc34 := Aside0.mk c34
       clear c34
       obtain ⟨y463, hy463⟩ : ∃ y_ : List Int, y_ = (x7_3 ++ [rd t453 x10_3]) := ⟨_, rfl⟩
       replace H : (spec_l5From.l2 k3 y461 y463 x8_2 t453 (wrap64 (x10_3 + 1)) a0_0 a0_1 l0_2) = some r := by first | (rw [hy463]; with_reducible exact H) | (have H2_ := (Option.bind_some _ _).symm.trans H; rw [hy463]; with_reducible exact H2_) | (have H2_ := (Option.bind_some _ _).symm.trans H; with_reducible exact H2_) | with_reducible exact H | (rw [hy463]; exact H) | exact H
       have Ny463 := Aside0.mk hy463
       clear hy463
       have H' := Aside0.mk H
       clear H
       obtain ⟨Ao35, co35, eo35⟩ := Kd.R_slice HO_9.out
       subst eo35
       have p456 : 0 ≤ (x10_3 : Int) := of_decide_eq_true (by first | (with_reducible assumption) | assumption)
       have q456 : x10_3 < (t453.length : Int) := of_decide_eq_true (by first | (with_reducible assumption) | assumption)
       obtain ⟨ad456, e456, hx456_0⟩ := Kd.at_int (Kd.R_reads' HO_9.out).2.2 x10_3 p456 q456
       cases e456
       replace p456 := eq_true p456
       replace q456 := eq_true q456
       have p457 : 0 ≤ ((rd t453 x10_3) : Int) := of_decide_eq_true (by first | (with_reducible assumption) | assumption)
       have q457 : (rd t453 x10_3) < (x5_3.length : Int) := of_decide_eq_true (by first | (with_reducible assumption) | assumption)
       obtain ⟨ad457, e457, hx457_0⟩ := Kd.at_int (Kd.R_reads' HO_5.out).2.2 (rd t453 x10_3) p457 q457
       obtain rfl : (⟨go12, 0, none⟩ : Addr) = ad457 := (by injection e457)
       (first | simp only [add_plain] at hx457_0 | simp only [add_at] at hx457_0 | simp only [Addr.add, Nat.zero_add] at hx457_0 | skip)
       replace p457 := eq_true p457
       replace q457 := eq_true q457
       try go_wp2
       have n0_ := Aside0.mk (Kd.R_drew HO_5.out)
       have n1_ := Aside0.mk (Kd.R_drew HO_7.out)
       have n2_ := Aside0.mk (Kd.R_drew HO_9.out)
       have n3_ := Aside0.mk (blk_drew BK441.out)
       have n4_ := Aside0.mk (below_drew1 HB.out)
       clear HO_5
       clear HO_7
       clear HO_9
       clear BK441
       clear HB
       have HO_5 := n0_
       have HO_7 := n1_
       have HO_9 := n2_
       have BK441 := n3_
       have HB := n4_
       clear n0_ n1_ n2_ n3_ n4_
       have p458 : 0 ≤ (x10_3 : Int) := of_decide_eq_true (by first | (with_reducible assumption) | assumption)
       have q458 : x10_3 < (t453.length : Int) := of_decide_eq_true (by first | (with_reducible assumption) | assumption)
       obtain ⟨ad458, e458, hx458_0⟩ := Kd.at_int (Kd.R_reads' HO_9.out).2.2 x10_3 p458 q458
       obtain rfl : ad456 = ad458 := (by injection e458)
       replace p458 := eq_true p458
       replace q458 := eq_true q458
       obtain ⟨Ao37, co37, eo37⟩ := Kd.R_slice HO_7.out
       (first | subst eo37 | (injection eo37 with f1_ f2_ f3_; have f4_ := f1_.symm; have f5_ := f3_.symm; clear f1_ f2_ f3_; subst f4_; subst f5_))
       have p459 : 0 ≤ (x8_2 : Int) := of_decide_eq_true (by first | (with_reducible assumption) | assumption)
       have q459 : x8_2 < (x7_3.length : Int) := of_decide_eq_true (by first | (with_reducible assumption) | assumption)
       obtain ⟨ad459, e459, hx459_0⟩ := Kd.at_int (Kd.R_reads' HO_7.out).2.2 x8_2 p459 q459
       cases e459
       replace p459 := eq_true p459
       replace q459 := eq_true q459
       have p460 : 0 ≤ ((rd x7_3 x8_2) : Int) := of_decide_eq_true (by first | (with_reducible assumption) | assumption)
       have q460 : (rd x7_3 x8_2) < (x5_3.length : Int) := of_decide_eq_true (by first | (with_reducible assumption) | assumption)
       obtain ⟨ad460, e460, hx460_0⟩ := Kd.at_int (Kd.R_reads' HO_5.out).2.2 (rd x7_3 x8_2) p460 q460
       obtain rfl : (⟨go12, 0, none⟩ : Addr) = ad460 := (by injection e460)
       (first | simp only [add_plain] at hx460_0 | simp only [add_at] at hx460_0 | simp only [Addr.add, Nat.zero_add] at hx460_0 | skip)
       replace p460 := eq_true p460
       replace q460 := eq_true q460
       have p33 : 0 ≤ ((rd t453 x10_3) : Int) := of_decide_eq_true (by first | (with_reducible assumption) | assumption)
       have q33 : ((rd t453 x10_3) : Int) < ((x5_3.length : Int) : Int) := of_decide_eq_true (by first | (with_reducible assumption) | assumption)
       obtain ⟨hx33_0, hf33_0⟩ := Kd.R_celln 0 HO_5.out ((rd t453 x10_3) : Int) p33 q33
       replace p33 := eq_true p33
       replace q33 := eq_true q33
       have HP38 := Kd.R_putn HO_5.out ((rd t453 x10_3) : Int) (wrap64 ((rd x5_3 (rd x7_3 x8_2)) + 1))
       rw [← Ny461.out] at HP38
       have HQ38 := Aside0.mk HP38
       clear HP38
       refine start_ (n := 15) (S := fun w' => w'.cell? (ad456.add (x10_3).toNat) = some (.int .i64 (rd t453 x10_3)) ∧ w'.cell? (ad459.add (x8_2).toNat) = some (.int .i64 (rd x7_3 x8_2)) ∧ w'.cell? ⟨go12, ((rd x7_3 x8_2)).toNat, none⟩ = some (.int .i64 (rd x5_3 (rd x7_3 x8_2)))) (ds := [14]) (ar 15 0 []) (by kernel_rfl) rfl rfl ⟨hx458_0, hx459_0, hx460_0⟩ (fun hHeld => ?_); refine with_tabW spec_l5From.tab16 spec_l5From.bits16 (fun HT_ HW_ => ?_)
       generalize wr.drew = w36 at HO_5 HO_7 HO_9 BK441 HB HQ38 hf33_0 hx33_0 hx458_0 hx459_0 hx460_0 hHeld ⊢
       refine pu_ (i := 0) (N := 53) (v := ?_) (a' := ?_) (ar 15 1 []) rfl rfl (any_of HT_.out (by kernel_rfl)) ?_ ?_ ?_
       rotate_left
       · intro w'
         go_simp
         with_reducible rfl
       rotate_left
       · simp only [puts_]
         rfl
       refine pu_ (i := 1) (N := 54) (v := ?_) (a' := ?_) (ar 15 2 []) rfl rfl (any_of HT_.out (by kernel_rfl)) ?_ ?_ ?_
       rotate_left
       · intro w'
         go_simp
         with_reducible rfl
       rotate_left
       · simp only [puts_]
         rfl
       refine pu_ (i := 2) (N := 55) (v := ?_) (a' := ?_) (ar 15 3 []) rfl rfl (any_of HT_.out (by kernel_rfl)) ?_ ?_ ?_
       rotate_left
       · intro w'
         go_simp
         with_reducible rfl
       rotate_left
       · simp only [puts_]
         rfl
       refine pu_ (i := 3) (N := 56) (v := ?_) (a' := ?_) (ar 15 4 []) rfl rfl (any_of HT_.out (by kernel_rfl)) ?_ ?_ ?_
       rotate_left
       · intro w'
         go_simp
         with_reducible rfl
       rotate_left
       · simp only [puts_]
         rfl
       refine pu_ (i := 5) (N := 58) (v := ?_) (a' := ?_) (ar 15 6 [4]) rfl rfl (any_of HT_.out (by kernel_rfl)) ?_ ?_ ?_
       rotate_left
       · intro w'
         go_simp
         with_reducible rfl
       rotate_left
       · simp only [puts_]
         rfl
       refine pu_ (i := 6) (N := 59) (v := ?_) (a' := ?_) (ar 15 7 [4]) rfl rfl (any_of HT_.out (by kernel_rfl)) ?_ ?_ ?_
       rotate_left
       · intro w'
         go_simp
         with_reducible rfl
       rotate_left
       · simp only [puts_]
         rfl
       refine pu_ (i := 7) (N := 60) (v := ?_) (a' := ?_) (ar 15 8 [4]) rfl rfl (any_of HT_.out (by kernel_rfl)) ?_ ?_ ?_
       rotate_left
       · intro w'
         go_simp
         with_reducible rfl
       rotate_left
       · simp only [puts_]
         rfl
       refine pu_ (i := 8) (N := 61) (v := ?_) (a' := ?_) (ar 15 9 [4]) rfl rfl (any_of HT_.out (by kernel_rfl)) ?_ ?_ ?_
       rotate_left
       · intro w'
         go_simp
         with_reducible rfl
       rotate_left
       · simp only [puts_]
         rfl
       refine tk_ (i := 4) (N := 57) (v := ?_) (a' := ?_) (ar 15 9 []) rfl rfl (take_ofW HT_.out HW_.out (by kernel_rfl)) ?_ hHeld ?_ ?_
       rotate_left
       · rintro w' ⟨s0, s1, s2⟩
         go_simp
         with_reducible rfl
       rotate_left
       · simp only [puts_]
         rfl
       refine tk_ (i := 9) (N := 62) (v := ?_) (a' := ?_) (ar 15 10 []) rfl rfl (take_ofW HT_.out HW_.out (by kernel_rfl)) ?_ hHeld ?_ ?_
       rotate_left
       · rintro w' ⟨s0, s1, s2⟩
         go_simp
         with_reducible rfl
       rotate_left
       · simp only [puts_]
         rfl
       refine pu_ (i := 10) (N := 63) (v := ?_) (a' := ?_) (ar 15 11 []) rfl rfl (any_of HT_.out (by kernel_rfl)) ?_ ?_ ?_
       rotate_left
       · intro w'
         go_simp
         with_reducible rfl
       rotate_left
       · simp only [puts_]
         rfl
       refine tk_ (i := 11) (N := 64) (v := ?_) (a' := ?_) (ar 15 12 []) rfl rfl (take_ofW HT_.out HW_.out (by kernel_rfl)) ?_ hHeld ?_ ?_
       rotate_left
       · rintro w' ⟨s0, s1, s2⟩
         go_simp
         with_reducible rfl
       rotate_left
       · simp only [puts_]
         rfl
       refine pu_ (i := 12) (N := 65) (v := ?_) (a' := ?_) (ar 15 13 []) rfl rfl (any_of HT_.out (by kernel_rfl)) ?_ ?_ ?_
       rotate_left
       · intro w'
         go_simp
         with_reducible rfl
       rotate_left
       · simp only [puts_]
         rfl
       refine pu_ (i := 13) (N := 66) (v := ?_) (a' := ?_) (ar 15 14 []) rfl rfl (any_of HT_.out (by kernel_rfl)) ?_ ?_ ?_
       rotate_left
       · intro w'
         go_simp
         with_reducible rfl
       rotate_left
       · simp only [puts_]
         rfl
       refine last_ (i := 14) (N := none) (ar 15 15 []) rfl rfl (one_of HT_.out (by kernel_rfl)) (by decide) (fun K hK => ?_)
       refine skip_ (w1 := ?_) (by rfl) rfl ?_ ?_
       rotate_left
       · go_simp
         rfl
       refine hK.out _ _ ?_
       clear hK K
       refine done_ (done_of HT_.out (by kernel_rfl)) ?_
       have p462 : 0 ≤ (x10_3 : Int) := of_decide_eq_true (by first | (with_reducible assumption) | assumption)
       have q462 : x10_3 < (t453.length : Int) := of_decide_eq_true (by first | (with_reducible assumption) | assumption)
       obtain ⟨ad462, e462, hx462_0⟩ := Kd.at_int (Kd.R_reads' HO_9.out).2.2 x10_3 p462 q462
       obtain rfl : ad456 = ad462 := (by injection e462)
       have hn462_0 : ad456.block ≠ go12 := (fun e_ => (HO_9.out.1 _ rfl).1 (by rw [e_]; rfl))
       replace hx462_0 := (cell_far (p := ⟨go12, ((rd t453 x10_3) : Int).toNat, none⟩) (by first | (rw [add_block]; exact hn462_0) | (show (Addr.add _ _).block ≠ _; rw [add_block]; exact hn462_0) | exact hn462_0) (.int .i64 (wrap64 ((rd x5_3 (rd x7_3 x8_2)) + 1)))).trans hx462_0
       clear hn462_0
       replace p462 := eq_true p462
       replace q462 := eq_true q462
       try go_wp2_with (first | ((with_reducible refine gate_builtin (b := .append) (xs := #[.tmp 67, .tmp 72]) rfl ?_); at_builtin; refine Kd.R_append (Kd.int .i64) (w0 := w) w.heap.size rfl (.tmp 67) (.tmp 72) 36 3 (.int .i64 0) 8 rfl Try.underlying36 info3 rfl (by decide) (by omega) (.slice (some ad459) x7_3.length co37) x7_3 (rd t453 x10_3) [.int .i64 (rd t453 x10_3)] (fun k_ => some k_ ≠ (.slice (some ⟨go12, 0, none⟩) x5_3.length co12 : Value).ownBlock ∧ some k_ ≠ (.slice (some ad456) t453.length co35 : Value).ownBlock) (fun _ => False) rfl (by first | (go_simp; done) | (go_simp; rfl)) ?aP (fun _ hk => hk.elim) ?aF ?aO ?aB ?aS ?aL ?_; (case aP => exact rfl); (case aB => exact (by repeat (first | (with_reducible first | exact HB.out | apply below_alloc | apply pw_below_drewN | apply below_drew1 | refine below_set ?_ GB12.out | refine below_set ?_ GE441.out) | exact HB.out))); (case aF => exact (fun k_ hk => ⟨Kd.fresh' (Kd.R_lt (by (with_reducible repeat (first | apply Kd.R_alloc | apply Kd.R_drewN | apply Kd.R_drew)); exact HQ38.out)) k_ hk, Kd.fresh' (Kd.R_lt (by (with_reducible repeat (first | apply Kd.R_alloc | apply Kd.R_drewN | apply Kd.R_drew)); exact (Kd.R_mono (Kd.R_far (p := ⟨go12, ((rd t453 x10_3) : Int).toNat, none⟩) (Kd.R_mono HO_9.out (fun k_ hk => (⟨hk, fun e_ => hk.1 (by rw [e_]; rfl)⟩ : _ ∧ k_ ≠ go12))) (fun _ hk => hk.2) (.int .i64 (wrap64 ((rd x5_3 (rd x7_3 x8_2)) + 1)))) (fun _ h_ => h_.1)))) k_ hk⟩)); (case aO => exact (by (with_reducible repeat (first | apply Kd.R_alloc | apply Kd.R_drewN | apply Kd.R_drew)); exact Kd.R_mono (Kd.R_far (p := ⟨go12, ((rd t453 x10_3) : Int).toNat, none⟩) (Kd.R_mono HO_7.out (fun k_ hk => (⟨hk, fun e_ => hk.1 (by rw [e_]; rfl)⟩ : _ ∧ k_ ≠ go12))) (fun _ hk => hk.2) (.int .i64 (wrap64 ((rd x5_3 (rd x7_3 x8_2)) + 1)))) (fun _ hk => ⟨hk.1.1, hk.1.2⟩))); (case aS => exact (below_size (by repeat (first | (with_reducible first | exact HB.out | apply below_alloc | apply pw_below_drewN | apply below_drew1 | refine below_set ?_ GB12.out | refine below_set ?_ GE441.out) | exact HB.out)))); (case aL => have := LMc34.out; omega); intro v464 w39 ho hb hg hat; rw [← Ny463.out] at ho; have n0_ := Aside0.mk (Kd.R_after (ok := (fun k_ => some k_ ≠ (.slice (some ad456) t453.length co35 : Value).ownBlock)) (by (with_reducible repeat (first | apply Kd.R_alloc | apply Kd.R_drewN | apply Kd.R_drew)); exact Kd.R_mono HQ38.out (fun _ hk => ⟨hk.2, hk.1⟩)) hg hat); have n1_ := Aside0.mk (Kd.R_after (ok := (fun k_ => some k_ ≠ (.slice (some ⟨go12, 0, none⟩) x5_3.length co12 : Value).ownBlock)) (by (with_reducible repeat (first | apply Kd.R_alloc | apply Kd.R_drewN | apply Kd.R_drew)); exact Kd.R_mono (Kd.R_far (p := ⟨go12, ((rd t453 x10_3) : Int).toNat, none⟩) (Kd.R_mono HO_9.out (fun k_ hk => (⟨hk, fun e_ => hk.1 (by rw [e_]; rfl)⟩ : _ ∧ k_ ≠ go12))) (fun _ hk => hk.2) (.int .i64 (wrap64 ((rd x5_3 (rd x7_3 x8_2)) + 1)))) (fun _ hk => ⟨hk.1.1, hk.1.2⟩)) hg hat); have n2_ := Aside0.mk (blk_grown (g := gb441) (o := .cells #[.int .i64 a0_0, .int .i64 a0_1, .slice A0_2 l0_2.length c0_2] 43 (0, 0)) (by (with_reducible repeat (first | refine blk_drewN ?_ _ | refine blk_drew ?_ | refine blk_alloc ?_ _)); refine blk_far ?_ (by have h_ := Kd.R_ne HO_5.out BK441.out (by decide); intro e_; exact h_ (by rw [e_]; rfl)) _; (with_reducible repeat (first | refine blk_drewN ?_ _ | refine blk_drew ?_ | refine blk_alloc ?_ _)); exact BK441.out) hg (Kd.R_ne HO_7.out BK441.out (by decide))); have n3_ := Aside0.mk (hb); have n4_ := Aside0.mk (ho); clear HO_5; clear HO_9; clear BK441; clear HB; clear HO_7; have HO_5 := n0_; have HO_9 := n1_; have BK441 := n2_; have HB := n3_; have HO465 := n4_; clear n0_ n1_ n2_ n3_ n4_; clear ho hb hg hat))
       (try simp only [← hl5_3])
       go_roundg k3
       case measure => have := HK1.out; have := HK2.out; have := HK3.out; omega
       case rel => exact ⟨(y461), (y463), (wrap64 (x10_3 + 1)), (by first | rfl | (simp; done) | (simp [*]; done)), H', ⟨by have := HK1.out; have := HK2.out; have := HK3.out; omega⟩, ⟨by (try simp only [hl5_2]); (try simp only [hl5_3]); (with_reducible repeat (first | apply Kd.R_alloc | apply Kd.R_drewN | apply Kd.R_drew)); exact Kd.R_mono HO_5.out (fun _ hk => ⟨hk.2, hk.1⟩)⟩, ⟨by (try simp only [hl5_2]); (try simp only [hl5_3]); (with_reducible repeat (first | apply Kd.R_alloc | apply Kd.R_drewN | apply Kd.R_drew)); exact HO465.out⟩, ⟨by (try simp only [hl5_2]); (try simp only [hl5_3]); (with_reducible repeat (first | apply Kd.R_alloc | apply Kd.R_drewN | apply Kd.R_drew)); exact HO_9.out⟩, ⟨by (try simp only [hl5_2]); (try simp only [hl5_3]); (with_reducible repeat (first | refine blk_drewN ?_ _ | refine blk_drew ?_ | refine blk_alloc ?_ _)); exact BK441.out⟩, ⟨below_up HB.out⟩⟩

/-! ### spec_Days: function 88 -/
def spec_Days.f (k : Nat) (a0_0 : Int) (a0_1 : Int) (l0_2 : List Int) (a1 : Int) (a2 : Int) : Option (Int) := (spec_IsOpen.f k a0_0 a0_1 l0_2 a1).bind fun t467 => (if t467 = true then ((spec_IsOpen.f k a0_0 a0_1 l0_2 a2).bind fun t468 => (if t468 = true then ((spec_l5From.f k a0_0 a0_1 l0_2 a1).bind fun t469 => (if 0 ≤ a2 then (if a2 < (t469.length : Int) then (some (rd t469 a2)) else (none)) else (none))) else (some (-1)))) else (some (-1)))
theorem spec_Days.mono : ∀ a0 a1 a2 a3 a4 k, LeO (spec_Days.f k a0 a1 a2 a3 a4) (spec_Days.f (k + 1) a0 a1 a2 a3 a4) := by
 intro a0 a1 a2 a3 a4 k
 unfold spec_Days.f
 repeat' first
  | (with_reducible exact spec_IsOpen.mono _ _ _ _ _)
  | (with_reducible exact spec_l5From.mono _ _ _ _ _)
  | (with_reducible exact LeO.refl _)
  | (with_reducible exact LeO.none _)
  | (with_reducible refine LeO.ite ?_ ?_)
  | (with_reducible refine LeO.bind ?_ (fun _ => ?_))
  | exact spec_IsOpen.mono _ _ _ _ _
  | exact spec_l5From.mono _ _ _ _ _
  | exact LeO.none _
  | refine LeO.ite ?_ ?_
  | refine LeO.bind ?_ (fun _ => ?_)
set_option maxHeartbeats 8000000 in
set_option maxRecDepth 100000 in
theorem spec_Days.calls (k : Nat) (a0_0 : Int) (a0_1 : Int) (A0_2 : Option Addr) (c0_2 : Nat) (l0_2 : List Int) (a1 : Int) (a2 : Int) (r : Int) (w : World) (hr0_2 : Kd.C (Kd.int .i64) w A0_2 l0_2.length l0_2) (hc0_2 : l0_2.length ≤ c0_2) (h : spec_Days.f k a0_0 a0_1 l0_2 a1 a2 = some r) :
 Calls Try.prog 88 #[.agg #[.int .i64 a0_0, .int .i64 a0_1, .slice A0_2 l0_2.length c0_2], .int .i64 a1, .int .i64 a2] w fun e w' => e = .returned (.int .i64 r) ∧ Below w.heap.size w w' := by
 have hu43 := Try.underlying43
 have HR0_2 := Aside0.mk hr0_2
 have HC0_2 := Aside0.mk hc0_2
 clear hr0_2 hc0_2
 have HB := Aside0.mk (Below.refl w.heap.size w)
 have H : ((spec_IsOpen.f k a0_0 a0_1 l0_2 a1).bind fun t467 => (if t467 = true then ((spec_IsOpen.f k a0_0 a0_1 l0_2 a2).bind fun t468 => (if t468 = true then ((spec_l5From.f k a0_0 a0_1 l0_2 a1).bind fun t469 => (if 0 ≤ a2 then (if a2 < (t469.length : Int) then (some (rd t469 a2)) else (none)) else (none))) else (some (-1)))) else (some (-1)))) = some r := h
 clear h
 replace H := Option.bind_eq_some_iff.mp H
 obtain ⟨t467, A40, H⟩ := H
 have A4 := Aside0.mk A40
 clear A40
 by_cases c5 : t467 = true
 rotate_left
 · replace c5 := Bool.eq_false_iff.mpr c5
   subst c5
   rw [if_neg (show ¬ (false = true) by decide)] at H
   obtain rfl := Option.some.inj H
   go_enter Try.func88, Try.ntmps88
   go_wp2_with (first | ((with_reducible refine gate_dst (N := 3) rfl ?_); refine box_event ?hg (N := 3) ?hd (cs := #[.int .i64 a0_0, .int .i64 a0_1, .slice A0_2 l0_2.length c0_2]) (t := 43) ?hr ?_; (case hd => rfl); (case hg => rfl); (case hr => first | (go_simp; done) | (go_simp; rfl)); intro gb466 hg w24 hbox hb; have n0_ := Aside0.mk (below_step (below_up HB.out) hb); have n1_ := Aside0.mk (hbox); have n2_ := Aside0.mk (szle hg HB.out); have n3_ := Aside0.mk (szle hg HB.out); replace HB := n0_; have BK466 := n1_; have GW466 := n2_; have GE466 := n3_; clear n0_ n1_ n2_ n3_; clear hb hbox hg; obtain ⟨hcz25_0, hcz25_1, hcz25_2⟩ := cells3_ BK466.out; obtain ⟨hfz25_0, hfz25_1, hfz25_2⟩ := frz3_ BK466.out) | ((with_reducible refine gate_callee (f := 79) rfl ?_); refine goesL_ (some 9) rfl rfl Try.func79 (by kernel_rfl) rfl #[.agg #[.int .i64 a0_0, .int .i64 a0_1, .slice A0_2 l0_2.length c0_2], .int .i64 a1] rfl (by (try simp only [am_]); first | done | rfl) ?_; (with_reducible refine (spec_IsOpen.calls k a0_0 a0_1 _ _ l0_2 a1 false _ ?side1 ?side2 A4.out).mono ?_); (case side1 => exact (Kd.C_below HR0_2.out (below_up HB.out))); (case side2 => exact HC0_2.out); rintro e w26 ⟨rfl, hb⟩; refine ⟨_, rfl, ?_⟩; have n0_ := Aside0.mk (blk_below (blk_up BK466.out) hb); have n1_ := Aside0.mk (below_step (below_up HB.out) hb); replace BK466 := n0_; replace HB := n1_; clear n0_ n1_; (try clear hb); (try clear hb2); (try clear hk); (try clear hi)))
   go_ret
   exact ⟨by first | rfl | (simp [errW_none, errW_some] <;> rfl) | (simp [*, errW_none, errW_some] <;> rfl), below_up HB.out⟩
 subst c5
 rw [if_pos rfl] at H
 replace H := Option.bind_eq_some_iff.mp H
 obtain ⟨t468, A60, H⟩ := H
 have A6 := Aside0.mk A60
 clear A60
 by_cases c7 : t468 = true
 rotate_left
 · replace c7 := Bool.eq_false_iff.mpr c7
   subst c7
   rw [if_neg (show ¬ (false = true) by decide)] at H
   obtain rfl := Option.some.inj H
   go_enter Try.func88, Try.ntmps88
   go_wp2_with (first | ((with_reducible refine gate_dst (N := 3) rfl ?_); refine box_event ?hg (N := 3) ?hd (cs := #[.int .i64 a0_0, .int .i64 a0_1, .slice A0_2 l0_2.length c0_2]) (t := 43) ?hr ?_; (case hd => rfl); (case hg => rfl); (case hr => first | (go_simp; done) | (go_simp; rfl)); intro gb466 hg w19 hbox hb; have n0_ := Aside0.mk (below_step (below_up HB.out) hb); have n1_ := Aside0.mk (hbox); have n2_ := Aside0.mk (szle hg HB.out); have n3_ := Aside0.mk (szle hg HB.out); replace HB := n0_; have BK466 := n1_; have GW466 := n2_; have GE466 := n3_; clear n0_ n1_ n2_ n3_; clear hb hbox hg; obtain ⟨hcz20_0, hcz20_1, hcz20_2⟩ := cells3_ BK466.out; obtain ⟨hfz20_0, hfz20_1, hfz20_2⟩ := frz3_ BK466.out) | ((with_reducible refine gate_callee (f := 79) rfl ?_); refine goesL_ (some 9) rfl rfl Try.func79 (by kernel_rfl) rfl #[.agg #[.int .i64 a0_0, .int .i64 a0_1, .slice A0_2 l0_2.length c0_2], .int .i64 a1] rfl (by (try simp only [am_]); first | done | rfl) ?_; (with_reducible refine (spec_IsOpen.calls k a0_0 a0_1 _ _ l0_2 a1 true _ ?side1 ?side2 A4.out).mono ?_); (case side1 => exact (Kd.C_below HR0_2.out (below_up HB.out))); (case side2 => exact HC0_2.out); rintro e w21 ⟨rfl, hb⟩; refine ⟨_, rfl, ?_⟩; have n0_ := Aside0.mk (blk_below (blk_up BK466.out) hb); have n1_ := Aside0.mk (below_step (below_up HB.out) hb); replace BK466 := n0_; replace HB := n1_; clear n0_ n1_; (try clear hb); (try clear hb2); (try clear hk); (try clear hi); obtain ⟨hcz22_0, hcz22_1, hcz22_2⟩ := cells3_ BK466.out; obtain ⟨hfz22_0, hfz22_1, hfz22_2⟩ := frz3_ BK466.out) | (go_at_call 79; (with_reducible refine (spec_IsOpen.calls k a0_0 a0_1 _ _ l0_2 a2 false _ ?side1 ?side2 A6.out).mono ?_); (case side1 => exact (Kd.C_below HR0_2.out (below_up HB.out))); (case side2 => exact HC0_2.out); rintro e w23 ⟨rfl, hb⟩; have n0_ := Aside0.mk (blk_below (blk_up BK466.out) hb); have n1_ := Aside0.mk (below_step (below_up HB.out) hb); replace BK466 := n0_; replace HB := n1_; clear n0_ n1_; (try clear hb); (try clear hb2); (try clear hk); (try clear hi)))
   go_ret
   exact ⟨by first | rfl | (simp [errW_none, errW_some] <;> rfl) | (simp [*, errW_none, errW_some] <;> rfl), below_up HB.out⟩
 subst c7
 rw [if_pos rfl] at H
 replace H := Option.bind_eq_some_iff.mp H
 obtain ⟨t469, A80, H⟩ := H
 have A8 := Aside0.mk A80
 clear A80
 by_cases c9 : 0 ≤ a2
 rotate_left
 · rw [if_neg c9] at H
   exact absurd H (by simp)
 rw [if_pos c9] at H
 have c9b0 : decide (0 ≤ a2) = true := decide_eq_true c9
 clear c9
 by_cases c10 : a2 < (t469.length : Int)
 rotate_left
 · rw [if_neg c10] at H
   exact absurd H (by simp)
 rw [if_pos c10] at H
 have c10b0 : decide (a2 < (t469.length : Int)) = true := decide_eq_true c10
 clear c10
 obtain rfl := Option.some.inj H
 go_enter Try.func88, Try.ntmps88
 go_wp2_with (first | ((with_reducible refine gate_dst (N := 3) rfl ?_); refine box_event ?hg (N := 3) ?hd (cs := #[.int .i64 a0_0, .int .i64 a0_1, .slice A0_2 l0_2.length c0_2]) (t := 43) ?hr ?_; (case hd => rfl); (case hg => rfl); (case hr => first | (go_simp; done) | (go_simp; rfl)); intro gb466 hg w11 hbox hb; have n0_ := Aside0.mk (below_step (below_up HB.out) hb); have n1_ := Aside0.mk (hbox); have n2_ := Aside0.mk (szle hg HB.out); have n3_ := Aside0.mk (szle hg HB.out); replace HB := n0_; have BK466 := n1_; have GW466 := n2_; have GE466 := n3_; clear n0_ n1_ n2_ n3_; clear hb hbox hg; obtain ⟨hcz12_0, hcz12_1, hcz12_2⟩ := cells3_ BK466.out; obtain ⟨hfz12_0, hfz12_1, hfz12_2⟩ := frz3_ BK466.out) | ((with_reducible refine gate_callee (f := 79) rfl ?_); refine goesL_ (some 9) rfl rfl Try.func79 (by kernel_rfl) rfl #[.agg #[.int .i64 a0_0, .int .i64 a0_1, .slice A0_2 l0_2.length c0_2], .int .i64 a1] rfl (by (try simp only [am_]); first | done | rfl) ?_; (with_reducible refine (spec_IsOpen.calls k a0_0 a0_1 _ _ l0_2 a1 true _ ?side1 ?side2 A4.out).mono ?_); (case side1 => exact (Kd.C_below HR0_2.out (below_up HB.out))); (case side2 => exact HC0_2.out); rintro e w13 ⟨rfl, hb⟩; refine ⟨_, rfl, ?_⟩; have n0_ := Aside0.mk (blk_below (blk_up BK466.out) hb); have n1_ := Aside0.mk (below_step (below_up HB.out) hb); replace BK466 := n0_; replace HB := n1_; clear n0_ n1_; (try clear hb); (try clear hb2); (try clear hk); (try clear hi); obtain ⟨hcz14_0, hcz14_1, hcz14_2⟩ := cells3_ BK466.out; obtain ⟨hfz14_0, hfz14_1, hfz14_2⟩ := frz3_ BK466.out) | (go_at_call 79; (with_reducible refine (spec_IsOpen.calls k a0_0 a0_1 _ _ l0_2 a2 true _ ?side1 ?side2 A6.out).mono ?_); (case side1 => exact (Kd.C_below HR0_2.out (below_up HB.out))); (case side2 => exact HC0_2.out); rintro e w15 ⟨rfl, hb⟩; have n0_ := Aside0.mk (blk_below (blk_up BK466.out) hb); have n1_ := Aside0.mk (below_step (below_up HB.out) hb); replace BK466 := n0_; replace HB := n1_; clear n0_ n1_; (try clear hb); (try clear hb2); (try clear hk); (try clear hi); obtain ⟨hcz16_0, hcz16_1, hcz16_2⟩ := cells3_ BK466.out; obtain ⟨hfz16_0, hfz16_1, hfz16_2⟩ := frz3_ BK466.out) | ((with_reducible refine gate_callee (f := 89) rfl ?_); refine goesL_ (some 19) rfl rfl Try.func89 (by kernel_rfl) rfl #[.agg #[.int .i64 a0_0, .int .i64 a0_1, .slice A0_2 l0_2.length c0_2], .int .i64 a1] rfl (by (try simp only [am_]); first | done | rfl) ?_; (with_reducible refine (spec_l5From.calls k a0_0 a0_1 _ _ l0_2 a1 t469 _ ?side1 ?side2 A8.out).mono ?_); (case side1 => exact (Kd.C_below HR0_2.out (below_up HB.out))); (case side2 => exact HC0_2.out); rintro e w17 ⟨v470, rfl, ho0, hb⟩; refine ⟨_, rfl, ?_⟩; have n0_ := Aside0.mk (Kd.R_lower ho0 (below_size (below_up HB.out))); have n1_ := Aside0.mk (blk_below (blk_up BK466.out) hb); have n2_ := Aside0.mk (below_step (below_up HB.out) hb); have HO471 := n0_; replace BK466 := n1_; replace HB := n2_; clear n0_ n1_ n2_; (try clear hb); (try clear hb2); (try clear hk); (try clear hi); (try clear ho0); obtain ⟨Ao18, co18, eo18⟩ := Kd.R_slice HO471.out; subst eo18; have p472 : 0 ≤ (a2 : Int) := of_decide_eq_true (by first | (with_reducible assumption) | assumption); have q472 : a2 < (t469.length : Int) := of_decide_eq_true (by first | (with_reducible assumption) | assumption); obtain ⟨ad472, e472, hx472_0⟩ := Kd.at_int (Kd.R_reads' HO471.out).2.2 a2 p472 q472; cases e472; replace p472 := eq_true p472; replace q472 := eq_true q472))
 go_ret
 exact ⟨by first | rfl | (simp [errW_none, errW_some] <;> rfl) | (simp [*, errW_none, errW_some] <;> rfl), below_up HB.out⟩

end Go.Proofs.Ytdgpnmbmnnmdcaa.PFnRopes
