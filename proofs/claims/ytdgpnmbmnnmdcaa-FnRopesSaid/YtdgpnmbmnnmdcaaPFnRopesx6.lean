/- Contracts of Go functions: what print.sh prints, written shorter by low.py. -/
import Derived.Test.YtdgpnmbmnnmdcaaLow
import Derived.Test.YtdgpnmbmnnmdcaaUp
import Derived.Test.YtdgpnmbmnnmdcaaPFnRopesx0
import Derived.Test.YtdgpnmbmnnmdcaaPFnRopesx4
namespace Go.Proofs.Ytdgpnmbmnnmdcaa.PFnRopes
open Go.RowKit Go.Proofs.YtdgpnmbmnnmdcaaW.PrintWords Go.Proofs.YtdgpnmbmnnmdcaaW.PrintLast Go.Proofs.YtdgpnmbmnnmdcaaW.PrintMore
attribute [local go_sem] max2_int min2_int max_two min_two max_three min_three max_four min_four   -- for this text's walks alone
set_option linter.unusedVariables false
set_option linter.unusedSimpArgs false

/-! ### impl_memberOf: function 55 -/
def impl_memberOf.l0 : Nat → Int → List (S68) → Int → Int → Option (Int)
 | 0, _, _, _, _ => none
 | k + 1, x1, x7, x8, x9 => if x9 < x8 then (if 0 ≤ x9 then (if x9 < (x7.length : Int) then (if ((rd_T68 x7 x9).f0) = x1 then (some x9) else (impl_memberOf.l0 k x1 x7 x8 (wrap64 (x9 + 1)))) else (none)) else (none)) else (some (-1))
def impl_memberOf.f (k : Nat) (l0 : List (S68)) (a1 : Int) : Option (Int) := impl_memberOf.l0 k a1 l0 (l0.length : Int) 0
theorem impl_memberOf.mono_l : ∀ k, (∀ y0 y1 y2 y3, LeO (impl_memberOf.l0 k y0 y1 y2 y3) (impl_memberOf.l0 (k + 1) y0 y1 y2 y3))
 | 0 => fun _ _ _ _ r h => by simp [impl_memberOf.l0] at h
 | k + 1 => by
  have ih0 := impl_memberOf.mono_l k
  · intro y0 y1 y2 y3
    unfold impl_memberOf.l0
    repeat' first
    | (with_reducible exact ih0 _ _ _ _)
    | (with_reducible exact LeO.refl _)
    | (with_reducible exact LeO.none _)
    | (with_reducible refine LeO.ite ?_ ?_)
    | (with_reducible refine LeO.bind ?_ (fun _ => ?_))
    | exact ih0 _ _ _ _
    | exact LeO.none _
    | refine LeO.ite ?_ ?_
    | refine LeO.bind ?_ (fun _ => ?_)
theorem impl_memberOf.mono : ∀ a0 a1 k, LeO (impl_memberOf.f k a0 a1) (impl_memberOf.f (k + 1) a0 a1) := by
 intro a0 a1 k
 have ih0 := impl_memberOf.mono_l k
 unfold impl_memberOf.f
 repeat' first
  | (with_reducible exact ih0 _ _ _ _)
  | (with_reducible exact LeO.refl _)
  | (with_reducible exact LeO.none _)
  | (with_reducible refine LeO.ite ?_ ?_)
  | (with_reducible refine LeO.bind ?_ (fun _ => ?_))
  | exact ih0 _ _ _ _
  | exact LeO.none _
  | refine LeO.ite ?_ ?_
  | refine LeO.bind ?_ (fun _ => ?_)
set_option maxHeartbeats 8000000 in
set_option maxRecDepth 100000 in
theorem impl_memberOf.calls (k : Nat) (A0 : Option Addr) (c0 : Nat) (l0 : List (S68)) (a1 : Int) (r : Int) (w : World) (hr0 : Kd.C k68 w A0 l0.length l0) (hc0 : l0.length ≤ c0) (h : impl_memberOf.f k l0 a1 = some r) :
 Calls Try.prog 55 #[.slice A0 l0.length c0, .int .i64 a1] w fun e w' => e = .returned (.int .i64 r) ∧ Below w.heap.size w w' := by
 have hu68 := Try.underlying68
 have HR0 := Aside0.mk hr0
 have HC0 := Aside0.mk hc0
 clear hr0 hc0
 have HB := Aside0.mk (Below.refl w.heap.size w)
 have H : (impl_memberOf.l0 k a1 l0 (l0.length : Int) 0) = some r := h
 clear h
 have H' := Aside0.mk H
 clear H
 go_enter Try.func55, Try.ntmps55
 go_wp2
 go_loopg [9] k (fun kq v9 w' => ∃ (x9_1 : Int), v9 = .int .i64 x9_1 ∧ Aside0 (impl_memberOf.l0 kq a1 l0 (l0.length : Int) x9_1 = some r) ∧ Aside0 (kq ≤ k) ∧ Aside0 (Below w.heap.size w w'))
 case atStart => exact ⟨(0), (by first | rfl | (simp; done) | (simp [*]; done)), H', ⟨Nat.le_refl _⟩, ⟨below_up HB.out⟩⟩
 case round =>
  clear H'
  try clear p2
  obtain ⟨x9_1, rfl, HA, HK1, HB⟩ := hrel
  cases gk with
  | zero => exact absurd HA.out (by simp [impl_memberOf.l0])
  | succ k1 =>
   have H := HA.out
   clear HA
   simp only [impl_memberOf.l0] at H
   by_cases c3 : x9_1 < (l0.length : Int)
   rotate_left
   · rw [if_neg c3] at H
     have c3b0 : decide (x9_1 < (l0.length : Int)) = false := decide_eq_false c3
     clear c3
     obtain rfl := Option.some.inj H
     go_wp2
     go_ret
     exact ⟨by first | rfl | (simp [errW_none, errW_some] <;> rfl) | (simp [*, errW_none, errW_some] <;> rfl), below_up HB.out⟩
   rw [if_pos c3] at H
   have c3b0 : decide (x9_1 < (l0.length : Int)) = true := decide_eq_true c3
   clear c3
   by_cases c4 : 0 ≤ x9_1
   rotate_left
   · rw [if_neg c4] at H
     exact absurd H (by simp)
   rw [if_pos c4] at H
   have c4b0 : decide (0 ≤ x9_1) = true := decide_eq_true c4
   clear c4
   by_cases c5 : x9_1 < (l0.length : Int)
   rotate_left
   · rw [if_neg c5] at H
     exact absurd H (by simp)
   rw [if_pos c5] at H
   have c5b0 : decide (x9_1 < (l0.length : Int)) = true := decide_eq_true c5
   clear c5
   by_cases c6 : ((rd_T68 l0 x9_1).f0) = a1
   · rw [if_pos c6] at H
     have c6b0 : (((rd_T68 l0 x9_1).f0) == a1) = true := beq_iff_eq.mpr c6
     have c6b1 : (((rd_T68 l0 x9_1).f0) != a1) = false := bne_eq_false_iff_eq.mpr c6
     clear c6
     obtain rfl := Option.some.inj H
     have p275 : 0 ≤ (x9_1 : Int) := of_decide_eq_true (by first | (with_reducible assumption) | assumption)
     have q275 : x9_1 < (l0.length : Int) := of_decide_eq_true (by first | (with_reducible assumption) | assumption)
     obtain ⟨ad275, e275, hx275_0, hx275_1, hx275_2, hx275_3⟩ := at_T68 HR0.out x9_1 p275 q275
     cases e275
     replace hx275_0 := (cel HB.out hx275_0 :)
     replace hx275_1 := (cel HB.out hx275_1 :)
     replace hx275_2 := (cel HB.out hx275_2 :)
     replace hx275_3 := (cel HB.out hx275_3 :)
     replace p275 := eq_true p275
     replace q275 := eq_true q275
     go_wp2_with (first | ((with_reducible refine gate_dst (N := 6) rfl ?_); refine box_event ?hg (N := 6) ?hd (cs := #[.int .i64 0, .int .i64 0, .int .i64 0, .bool false]) (t := 68) ?hr ?_; (case hd => rfl); (case hg => rfl); (case hr => first | (go_simp; done) | (go_simp; rfl)); intro gb276 hg w7 hbox hb; have n0_ := Aside0.mk (below_step (below_up HB.out) hb); have n1_ := Aside0.mk (hbox); have n2_ := Aside0.mk (szle hg HB.out); have n3_ := Aside0.mk (szle hg HB.out); replace HB := n0_; have BK276 := n1_; have GW276 := n2_; have GE276 := n3_; clear n0_ n1_ n2_ n3_; clear hb hbox hg; obtain ⟨hcz8_0, hcz8_1, hcz8_2, hcz8_3⟩ := cells4_ BK276.out; obtain ⟨hfz8_0, hfz8_1, hfz8_2, hfz8_3⟩ := frz4_ BK276.out))
     go_ret
     exact ⟨by first | rfl | (simp [errW_none, errW_some] <;> rfl) | (simp [*, errW_none, errW_some] <;> rfl), by repeat (first | (with_reducible first | exact HB.out | apply below_alloc | apply pw_below_drewN | apply below_drew1 | refine below_set ?_ GE276.out) | exact HB.out)⟩
   rw [if_neg c6] at H
   have c6b0 : (((rd_T68 l0 x9_1).f0) == a1) = false := beq_eq_false_iff_ne.mpr c6
   have c6b1 : (((rd_T68 l0 x9_1).f0) != a1) = true := bne_iff_ne.mpr c6
   have H' := Aside0.mk H
   clear H
   have p275 : 0 ≤ (x9_1 : Int) := of_decide_eq_true (by first | (with_reducible assumption) | assumption)
   have q275 : x9_1 < (l0.length : Int) := of_decide_eq_true (by first | (with_reducible assumption) | assumption)
   obtain ⟨ad275, e275, hx275_0, hx275_1, hx275_2, hx275_3⟩ := at_T68 HR0.out x9_1 p275 q275
   cases e275
   replace hx275_0 := (cel HB.out hx275_0 :)
   replace hx275_1 := (cel HB.out hx275_1 :)
   replace hx275_2 := (cel HB.out hx275_2 :)
   replace hx275_3 := (cel HB.out hx275_3 :)
   replace p275 := eq_true p275
   replace q275 := eq_true q275
   go_wp2_with (first | ((with_reducible refine gate_dst (N := 6) rfl ?_); refine box_event ?hg (N := 6) ?hd (cs := #[.int .i64 0, .int .i64 0, .int .i64 0, .bool false]) (t := 68) ?hr ?_; (case hd => rfl); (case hg => rfl); (case hr => first | (go_simp; done) | (go_simp; rfl)); intro gb276 hg w9 hbox hb; have n0_ := Aside0.mk (below_step (below_up HB.out) hb); have n1_ := Aside0.mk (hbox); have n2_ := Aside0.mk (szle hg HB.out); have n3_ := Aside0.mk (szle hg HB.out); replace HB := n0_; have BK276 := n1_; have GW276 := n2_; have GE276 := n3_; clear n0_ n1_ n2_ n3_; clear hb hbox hg; obtain ⟨hcz10_0, hcz10_1, hcz10_2, hcz10_3⟩ := cells4_ BK276.out; obtain ⟨hfz10_0, hfz10_1, hfz10_2, hfz10_3⟩ := frz4_ BK276.out))
   go_roundg k1
   case measure => have := HK1.out; omega
   case rel => exact ⟨(wrap64 (x9_1 + 1)), (by first | rfl | (simp; done) | (simp [*]; done)), H', ⟨by have := HK1.out; omega⟩, ⟨by repeat (first | (with_reducible first | exact HB.out | apply below_alloc | apply pw_below_drewN | apply below_drew1 | refine below_set ?_ GE276.out) | exact HB.out)⟩⟩

/-! ### impl_LeaderOf: function 18 -/
def impl_LeaderOf.l0 : Nat → List (S68) → Int → List Int → Int → Int → Option (Int)
 | 0, _, _, _, _, _ => none
 | k + 1, x0, x5, x9, x10, x11 => if x11 < x10 then (if 0 ≤ x11 then (if x11 < (x9.length : Int) then ((impl_memberOf.f k x0 (rd x9 x11)).bind fun t278 => (if t278 ≥ 0 then (if x5 < 0 then (impl_LeaderOf.l0 k x0 t278 x9 x10 (wrap64 (x11 + 1))) else (if 0 ≤ t278 then (if t278 < (x0.length : Int) then (if 0 ≤ x5 then (if x5 < (x0.length : Int) then (if ((rd_T68 x0 t278).f1) > ((rd_T68 x0 x5).f1) then (impl_LeaderOf.l0 k x0 t278 x9 x10 (wrap64 (x11 + 1))) else (impl_LeaderOf.l0 k x0 x5 x9 x10 (wrap64 (x11 + 1)))) else (none)) else (none)) else (none)) else (none))) else (impl_LeaderOf.l0 k x0 x5 x9 x10 (wrap64 (x11 + 1))))) else (none)) else (none)) else (if x5 < 0 then (some 0) else (if 0 ≤ x5 then (if x5 < (x0.length : Int) then (some ((rd_T68 x0 x5).f0)) else (none)) else (none)))
def impl_LeaderOf.f (k : Nat) (l0 : List (S68)) (l1 : List Int) : Option (Int) := impl_LeaderOf.l0 k l0 (-1) l1 (l1.length : Int) 0
theorem impl_LeaderOf.mono_l : ∀ k, (∀ y0 y1 y2 y3 y4, LeO (impl_LeaderOf.l0 k y0 y1 y2 y3 y4) (impl_LeaderOf.l0 (k + 1) y0 y1 y2 y3 y4))
 | 0 => fun _ _ _ _ _ r h => by simp [impl_LeaderOf.l0] at h
 | k + 1 => by
  have ih0 := impl_LeaderOf.mono_l k
  · intro y0 y1 y2 y3 y4
    unfold impl_LeaderOf.l0
    repeat' first
    | (with_reducible exact ih0 _ _ _ _ _)
    | (with_reducible exact impl_memberOf.mono _ _ _)
    | (with_reducible exact LeO.refl _)
    | (with_reducible exact LeO.none _)
    | (with_reducible refine LeO.ite ?_ ?_)
    | (with_reducible refine LeO.bind ?_ (fun _ => ?_))
    | exact ih0 _ _ _ _ _
    | exact impl_memberOf.mono _ _ _
    | exact LeO.none _
    | refine LeO.ite ?_ ?_
    | refine LeO.bind ?_ (fun _ => ?_)
theorem impl_LeaderOf.mono : ∀ a0 a1 k, LeO (impl_LeaderOf.f k a0 a1) (impl_LeaderOf.f (k + 1) a0 a1) := by
 intro a0 a1 k
 have ih0 := impl_LeaderOf.mono_l k
 unfold impl_LeaderOf.f
 repeat' first
  | (with_reducible exact ih0 _ _ _ _ _)
  | (with_reducible exact impl_memberOf.mono _ _ _)
  | (with_reducible exact LeO.refl _)
  | (with_reducible exact LeO.none _)
  | (with_reducible refine LeO.ite ?_ ?_)
  | (with_reducible refine LeO.bind ?_ (fun _ => ?_))
  | exact ih0 _ _ _ _ _
  | exact impl_memberOf.mono _ _ _
  | exact LeO.none _
  | refine LeO.ite ?_ ?_
  | refine LeO.bind ?_ (fun _ => ?_)
set_option maxHeartbeats 8000000 in
set_option maxRecDepth 100000 in
theorem impl_LeaderOf.calls (k : Nat) (A0 : Option Addr) (c0 : Nat) (l0 : List (S68)) (A1 : Option Addr) (c1 : Nat) (l1 : List Int) (r : Int) (w : World) (hr0 : Kd.C k68 w A0 l0.length l0) (hc0 : l0.length ≤ c0) (hr1 : Kd.C (Kd.int .i64) w A1 l1.length l1) (hc1 : l1.length ≤ c1) (h : impl_LeaderOf.f k l0 l1 = some r) :
 Calls Try.prog 18 #[.slice A0 l0.length c0, .slice A1 l1.length c1] w fun e w' => e = .returned (.int .i64 r) ∧ Below w.heap.size w w' := by
 have HR0 := Aside0.mk hr0
 have HC0 := Aside0.mk hc0
 clear hr0 hc0
 have HR1 := Aside0.mk hr1
 have HC1 := Aside0.mk hc1
 clear hr1 hc1
 have HB := Aside0.mk (Below.refl w.heap.size w)
 have H : (impl_LeaderOf.l0 k l0 (-1) l1 (l1.length : Int) 0) = some r := h
 clear h
 have H' := Aside0.mk H
 clear H
 go_enter Try.func18, Try.ntmps18
 go_wp2
 repeat (go_quiet (fail); try go_wp2)
 go_loopg [5, 11] k (fun kq v5 v11 w' => ∃ (x5_1 : Int) (x11_1 : Int), v5 = .int .i64 x5_1 ∧ v11 = .int .i64 x11_1 ∧ Aside0 (impl_LeaderOf.l0 kq l0 x5_1 l1 (l1.length : Int) x11_1 = some r) ∧ Aside0 (kq ≤ k) ∧ Aside0 (Below w.heap.size w w'))
 case atStart => exact ⟨((-1)), (0), (by first | rfl | (simp; done) | (simp [*]; done)), (by first | rfl | (simp; done) | (simp [*]; done)), H', ⟨Nat.le_refl _⟩, ⟨below_up HB.out⟩⟩
 case round =>
  clear H'
  try clear c1
  try clear p2
  obtain ⟨x5_1, x11_1, rfl, rfl, HA, HK1, HB⟩ := hrel
  cases gk with
  | zero => exact absurd HA.out (by simp [impl_LeaderOf.l0])
  | succ k1 =>
   have H := HA.out
   clear HA
   simp only [impl_LeaderOf.l0] at H
   by_cases c3 : x11_1 < (l1.length : Int)
   rotate_left
   · rw [if_neg c3] at H
     have c3b0 : decide (x11_1 < (l1.length : Int)) = false := decide_eq_false c3
     clear c3
     by_cases c18 : x5_1 < 0
     · rw [if_pos c18] at H
       have c18b0 : decide (x5_1 < 0) = true := decide_eq_true c18
       clear c18
       obtain rfl := Option.some.inj H
       go_wp2
       repeat (go_quiet (fail); try go_wp2)
       go_ret
       exact ⟨by first | rfl | (simp [errW_none, errW_some] <;> rfl) | (simp [*, errW_none, errW_some] <;> rfl), below_up HB.out⟩
     rw [if_neg c18] at H
     have c18b0 : decide (x5_1 < 0) = false := decide_eq_false c18
     clear c18
     by_cases c19 : 0 ≤ x5_1
     rotate_left
     · rw [if_neg c19] at H
       exact absurd H (by simp)
     rw [if_pos c19] at H
     have c19b0 : decide (0 ≤ x5_1) = true := decide_eq_true c19
     clear c19
     by_cases c20 : x5_1 < (l0.length : Int)
     rotate_left
     · rw [if_neg c20] at H
       exact absurd H (by simp)
     rw [if_pos c20] at H
     have c20b0 : decide (x5_1 < (l0.length : Int)) = true := decide_eq_true c20
     clear c20
     obtain rfl := Option.some.inj H
     have p281 : 0 ≤ (x5_1 : Int) := of_decide_eq_true (by first | (with_reducible assumption) | assumption)
     have q281 : x5_1 < (l0.length : Int) := of_decide_eq_true (by first | (with_reducible assumption) | assumption)
     obtain ⟨ad281, e281, hx281_0, hx281_1, hx281_2, hx281_3⟩ := at_T68 HR0.out x5_1 p281 q281
     cases e281
     replace hx281_0 := (cel HB.out hx281_0 :)
     replace hx281_1 := (cel HB.out hx281_1 :)
     replace hx281_2 := (cel HB.out hx281_2 :)
     replace hx281_3 := (cel HB.out hx281_3 :)
     replace p281 := eq_true p281
     replace q281 := eq_true q281
     go_wp2
     repeat (go_quiet (fail); try go_wp2)
     go_ret
     exact ⟨by first | rfl | (simp [errW_none, errW_some] <;> rfl) | (simp [*, errW_none, errW_some] <;> rfl), below_up HB.out⟩
   rw [if_pos c3] at H
   have c3b0 : decide (x11_1 < (l1.length : Int)) = true := decide_eq_true c3
   clear c3
   by_cases c4 : 0 ≤ x11_1
   rotate_left
   · rw [if_neg c4] at H
     exact absurd H (by simp)
   rw [if_pos c4] at H
   have c4b0 : decide (0 ≤ x11_1) = true := decide_eq_true c4
   clear c4
   by_cases c5 : x11_1 < (l1.length : Int)
   rotate_left
   · rw [if_neg c5] at H
     exact absurd H (by simp)
   rw [if_pos c5] at H
   have c5b0 : decide (x11_1 < (l1.length : Int)) = true := decide_eq_true c5
   clear c5
   replace H := Option.bind_eq_some_iff.mp H
   obtain ⟨t278, A60, H⟩ := H
   have A6 := Aside0.mk A60
   clear A60
   by_cases c7 : t278 ≥ 0
   rotate_left
   · rw [if_neg c7] at H
     have c7b0 : decide (0 ≤ t278) = false := decide_eq_false c7
     clear c7
     have H' := Aside0.mk H
     clear H
     have p277 : 0 ≤ (x11_1 : Int) := of_decide_eq_true (by first | (with_reducible assumption) | assumption)
     have q277 : x11_1 < (l1.length : Int) := of_decide_eq_true (by first | (with_reducible assumption) | assumption)
     obtain ⟨ad277, e277, hx277_0⟩ := Kd.at_int HR1.out x11_1 p277 q277
     cases e277
     replace hx277_0 := (cel HB.out hx277_0 :)
     replace p277 := eq_true p277
     replace q277 := eq_true q277
     go_wp2_with (first | (go_at_call 55; (with_reducible refine (impl_memberOf.calls k1 _ _ l0 (rd l1 x11_1) t278 _ ?side1 ?side2 A6.out).mono ?_); (case side1 => exact (Kd.C_below HR0.out (below_up HB.out))); (case side2 => exact HC0.out); rintro e w17 ⟨rfl, hb⟩; have n0_ := Aside0.mk (below_step (below_up HB.out) hb); replace HB := n0_; clear n0_; (try clear hb); (try clear hb2); (try clear hk); (try clear hi)))
     repeat (go_quiet (first | (go_at_call 55; (with_reducible refine (impl_memberOf.calls k1 _ _ l0 (rd l1 x11_1) t278 _ ?side1 ?side2 A6.out).mono ?_); (case side1 => exact (Kd.C_below HR0.out (below_up HB.out))); (case side2 => exact HC0.out); rintro e w17 ⟨rfl, hb⟩; have n0_ := Aside0.mk (below_step (below_up HB.out) hb); replace HB := n0_; clear n0_; (try clear hb); (try clear hb2); (try clear hk); (try clear hi))); try go_wp2_with (first | (go_at_call 55; (with_reducible refine (impl_memberOf.calls k1 _ _ l0 (rd l1 x11_1) t278 _ ?side1 ?side2 A6.out).mono ?_); (case side1 => exact (Kd.C_below HR0.out (below_up HB.out))); (case side2 => exact HC0.out); rintro e w17 ⟨rfl, hb⟩; have n0_ := Aside0.mk (below_step (below_up HB.out) hb); replace HB := n0_; clear n0_; (try clear hb); (try clear hb2); (try clear hk); (try clear hi))))
     go_roundg k1
     case measure => have := HK1.out; omega
     case rel => exact ⟨(x5_1), (wrap64 (x11_1 + 1)), (by first | rfl | (simp; done) | (simp [*]; done)), (by first | rfl | (simp; done) | (simp [*]; done)), H', ⟨by have := HK1.out; omega⟩, ⟨below_up HB.out⟩⟩
   rw [if_pos c7] at H
   have c7b0 : decide (0 ≤ t278) = true := decide_eq_true c7
   clear c7
   by_cases c8 : x5_1 < 0
   · rw [if_pos c8] at H
     have c8b0 : decide (x5_1 < 0) = true := decide_eq_true c8
     clear c8
     have H' := Aside0.mk H
     clear H
     have p277 : 0 ≤ (x11_1 : Int) := of_decide_eq_true (by first | (with_reducible assumption) | assumption)
     have q277 : x11_1 < (l1.length : Int) := of_decide_eq_true (by first | (with_reducible assumption) | assumption)
     obtain ⟨ad277, e277, hx277_0⟩ := Kd.at_int HR1.out x11_1 p277 q277
     cases e277
     replace hx277_0 := (cel HB.out hx277_0 :)
     replace p277 := eq_true p277
     replace q277 := eq_true q277
     go_wp2_with (first | (go_at_call 55; (with_reducible refine (impl_memberOf.calls k1 _ _ l0 (rd l1 x11_1) t278 _ ?side1 ?side2 A6.out).mono ?_); (case side1 => exact (Kd.C_below HR0.out (below_up HB.out))); (case side2 => exact HC0.out); rintro e w9 ⟨rfl, hb⟩; have n0_ := Aside0.mk (below_step (below_up HB.out) hb); replace HB := n0_; clear n0_; (try clear hb); (try clear hb2); (try clear hk); (try clear hi)))
     repeat (go_quiet (first | (go_at_call 55; (with_reducible refine (impl_memberOf.calls k1 _ _ l0 (rd l1 x11_1) t278 _ ?side1 ?side2 A6.out).mono ?_); (case side1 => exact (Kd.C_below HR0.out (below_up HB.out))); (case side2 => exact HC0.out); rintro e w9 ⟨rfl, hb⟩; have n0_ := Aside0.mk (below_step (below_up HB.out) hb); replace HB := n0_; clear n0_; (try clear hb); (try clear hb2); (try clear hk); (try clear hi))); try go_wp2_with (first | (go_at_call 55; (with_reducible refine (impl_memberOf.calls k1 _ _ l0 (rd l1 x11_1) t278 _ ?side1 ?side2 A6.out).mono ?_); (case side1 => exact (Kd.C_below HR0.out (below_up HB.out))); (case side2 => exact HC0.out); rintro e w9 ⟨rfl, hb⟩; have n0_ := Aside0.mk (below_step (below_up HB.out) hb); replace HB := n0_; clear n0_; (try clear hb); (try clear hb2); (try clear hk); (try clear hi))))
     go_roundg k1
     case measure => have := HK1.out; omega
     case rel => exact ⟨(t278), (wrap64 (x11_1 + 1)), (by first | rfl | (simp; done) | (simp [*]; done)), (by first | rfl | (simp; done) | (simp [*]; done)), H', ⟨by have := HK1.out; omega⟩, ⟨below_up HB.out⟩⟩
   rw [if_neg c8] at H
   have c8b0 : decide (x5_1 < 0) = false := decide_eq_false c8
   clear c8
   by_cases c10 : 0 ≤ t278
   rotate_left
   · rw [if_neg c10] at H
     exact absurd H (by simp)
   rw [if_pos c10] at H
   have c10b0 : decide (0 ≤ t278) = true := decide_eq_true c10
   clear c10
   by_cases c11 : t278 < (l0.length : Int)
   rotate_left
   · rw [if_neg c11] at H
     exact absurd H (by simp)
   rw [if_pos c11] at H
   have c11b0 : decide (t278 < (l0.length : Int)) = true := decide_eq_true c11
   clear c11
   by_cases c12 : 0 ≤ x5_1
   rotate_left
   · rw [if_neg c12] at H
     exact absurd H (by simp)
   rw [if_pos c12] at H
   have c12b0 : decide (0 ≤ x5_1) = true := decide_eq_true c12
   clear c12
   by_cases c13 : x5_1 < (l0.length : Int)
   rotate_left
   · rw [if_neg c13] at H
     exact absurd H (by simp)
   rw [if_pos c13] at H
   have c13b0 : decide (x5_1 < (l0.length : Int)) = true := decide_eq_true c13
   clear c13
   by_cases c14 : ((rd_T68 l0 t278).f1) > ((rd_T68 l0 x5_1).f1)
   · rw [if_pos c14] at H
     have c14b0 : decide (((rd_T68 l0 x5_1).f1) < ((rd_T68 l0 t278).f1)) = true := decide_eq_true c14
     clear c14
     have H' := Aside0.mk H
     clear H
     have p277 : 0 ≤ (x11_1 : Int) := of_decide_eq_true (by first | (with_reducible assumption) | assumption)
     have q277 : x11_1 < (l1.length : Int) := of_decide_eq_true (by first | (with_reducible assumption) | assumption)
     obtain ⟨ad277, e277, hx277_0⟩ := Kd.at_int HR1.out x11_1 p277 q277
     cases e277
     replace hx277_0 := (cel HB.out hx277_0 :)
     replace p277 := eq_true p277
     replace q277 := eq_true q277
     go_wp2_with (first | (go_at_call 55; (with_reducible refine (impl_memberOf.calls k1 _ _ l0 (rd l1 x11_1) t278 _ ?side1 ?side2 A6.out).mono ?_); (case side1 => exact (Kd.C_below HR0.out (below_up HB.out))); (case side2 => exact HC0.out); rintro e w15 ⟨rfl, hb⟩; have n0_ := Aside0.mk (below_step (below_up HB.out) hb); replace HB := n0_; clear n0_; (try clear hb); (try clear hb2); (try clear hk); (try clear hi); have p279 : 0 ≤ (t278 : Int) := of_decide_eq_true (by first | (with_reducible assumption) | assumption); have q279 : t278 < (l0.length : Int) := of_decide_eq_true (by first | (with_reducible assumption) | assumption); obtain ⟨ad279, e279, hx279_0, hx279_1, hx279_2, hx279_3⟩ := at_T68 HR0.out t278 p279 q279; cases e279; replace hx279_0 := (cel HB.out hx279_0 :); replace hx279_1 := (cel HB.out hx279_1 :); replace hx279_2 := (cel HB.out hx279_2 :); replace hx279_3 := (cel HB.out hx279_3 :); replace p279 := eq_true p279; replace q279 := eq_true q279; have p280 : 0 ≤ (x5_1 : Int) := of_decide_eq_true (by first | (with_reducible assumption) | assumption); have q280 : x5_1 < (l0.length : Int) := of_decide_eq_true (by first | (with_reducible assumption) | assumption); obtain ⟨ad280, e280, hx280_0, hx280_1, hx280_2, hx280_3⟩ := at_T68 HR0.out x5_1 p280 q280; obtain rfl : ad279 = ad280 := (by injection e280); replace hx280_0 := (cel HB.out hx280_0 :); replace hx280_1 := (cel HB.out hx280_1 :); replace hx280_2 := (cel HB.out hx280_2 :); replace hx280_3 := (cel HB.out hx280_3 :); replace p280 := eq_true p280; replace q280 := eq_true q280))
     repeat (go_quiet (first | (go_at_call 55; (with_reducible refine (impl_memberOf.calls k1 _ _ l0 (rd l1 x11_1) t278 _ ?side1 ?side2 A6.out).mono ?_); (case side1 => exact (Kd.C_below HR0.out (below_up HB.out))); (case side2 => exact HC0.out); rintro e w15 ⟨rfl, hb⟩; have n0_ := Aside0.mk (below_step (below_up HB.out) hb); replace HB := n0_; clear n0_; (try clear hb); (try clear hb2); (try clear hk); (try clear hi); have p279 : 0 ≤ (t278 : Int) := of_decide_eq_true (by first | (with_reducible assumption) | assumption); have q279 : t278 < (l0.length : Int) := of_decide_eq_true (by first | (with_reducible assumption) | assumption); obtain ⟨ad279, e279, hx279_0, hx279_1, hx279_2, hx279_3⟩ := at_T68 HR0.out t278 p279 q279; cases e279; replace hx279_0 := (cel HB.out hx279_0 :); replace hx279_1 := (cel HB.out hx279_1 :); replace hx279_2 := (cel HB.out hx279_2 :); replace hx279_3 := (cel HB.out hx279_3 :); replace p279 := eq_true p279; replace q279 := eq_true q279; have p280 : 0 ≤ (x5_1 : Int) := of_decide_eq_true (by first | (with_reducible assumption) | assumption); have q280 : x5_1 < (l0.length : Int) := of_decide_eq_true (by first | (with_reducible assumption) | assumption); obtain ⟨ad280, e280, hx280_0, hx280_1, hx280_2, hx280_3⟩ := at_T68 HR0.out x5_1 p280 q280; obtain rfl : ad279 = ad280 := (by injection e280); replace hx280_0 := (cel HB.out hx280_0 :); replace hx280_1 := (cel HB.out hx280_1 :); replace hx280_2 := (cel HB.out hx280_2 :); replace hx280_3 := (cel HB.out hx280_3 :); replace p280 := eq_true p280; replace q280 := eq_true q280)); try go_wp2_with (first | (go_at_call 55; (with_reducible refine (impl_memberOf.calls k1 _ _ l0 (rd l1 x11_1) t278 _ ?side1 ?side2 A6.out).mono ?_); (case side1 => exact (Kd.C_below HR0.out (below_up HB.out))); (case side2 => exact HC0.out); rintro e w15 ⟨rfl, hb⟩; have n0_ := Aside0.mk (below_step (below_up HB.out) hb); replace HB := n0_; clear n0_; (try clear hb); (try clear hb2); (try clear hk); (try clear hi); have p279 : 0 ≤ (t278 : Int) := of_decide_eq_true (by first | (with_reducible assumption) | assumption); have q279 : t278 < (l0.length : Int) := of_decide_eq_true (by first | (with_reducible assumption) | assumption); obtain ⟨ad279, e279, hx279_0, hx279_1, hx279_2, hx279_3⟩ := at_T68 HR0.out t278 p279 q279; cases e279; replace hx279_0 := (cel HB.out hx279_0 :); replace hx279_1 := (cel HB.out hx279_1 :); replace hx279_2 := (cel HB.out hx279_2 :); replace hx279_3 := (cel HB.out hx279_3 :); replace p279 := eq_true p279; replace q279 := eq_true q279; have p280 : 0 ≤ (x5_1 : Int) := of_decide_eq_true (by first | (with_reducible assumption) | assumption); have q280 : x5_1 < (l0.length : Int) := of_decide_eq_true (by first | (with_reducible assumption) | assumption); obtain ⟨ad280, e280, hx280_0, hx280_1, hx280_2, hx280_3⟩ := at_T68 HR0.out x5_1 p280 q280; obtain rfl : ad279 = ad280 := (by injection e280); replace hx280_0 := (cel HB.out hx280_0 :); replace hx280_1 := (cel HB.out hx280_1 :); replace hx280_2 := (cel HB.out hx280_2 :); replace hx280_3 := (cel HB.out hx280_3 :); replace p280 := eq_true p280; replace q280 := eq_true q280)))
     go_roundg k1
     case measure => have := HK1.out; omega
     case rel => exact ⟨(t278), (wrap64 (x11_1 + 1)), (by first | rfl | (simp; done) | (simp [*]; done)), (by first | rfl | (simp; done) | (simp [*]; done)), H', ⟨by have := HK1.out; omega⟩, ⟨below_up HB.out⟩⟩
   rw [if_neg c14] at H
   have c14b0 : decide (((rd_T68 l0 x5_1).f1) < ((rd_T68 l0 t278).f1)) = false := decide_eq_false c14
   clear c14
   have H' := Aside0.mk H
   clear H
   have p277 : 0 ≤ (x11_1 : Int) := of_decide_eq_true (by first | (with_reducible assumption) | assumption)
   have q277 : x11_1 < (l1.length : Int) := of_decide_eq_true (by first | (with_reducible assumption) | assumption)
   obtain ⟨ad277, e277, hx277_0⟩ := Kd.at_int HR1.out x11_1 p277 q277
   cases e277
   replace hx277_0 := (cel HB.out hx277_0 :)
   replace p277 := eq_true p277
   replace q277 := eq_true q277
   go_wp2_with (first | (go_at_call 55; (with_reducible refine (impl_memberOf.calls k1 _ _ l0 (rd l1 x11_1) t278 _ ?side1 ?side2 A6.out).mono ?_); (case side1 => exact (Kd.C_below HR0.out (below_up HB.out))); (case side2 => exact HC0.out); rintro e w16 ⟨rfl, hb⟩; have n0_ := Aside0.mk (below_step (below_up HB.out) hb); replace HB := n0_; clear n0_; (try clear hb); (try clear hb2); (try clear hk); (try clear hi); have p279 : 0 ≤ (t278 : Int) := of_decide_eq_true (by first | (with_reducible assumption) | assumption); have q279 : t278 < (l0.length : Int) := of_decide_eq_true (by first | (with_reducible assumption) | assumption); obtain ⟨ad279, e279, hx279_0, hx279_1, hx279_2, hx279_3⟩ := at_T68 HR0.out t278 p279 q279; cases e279; replace hx279_0 := (cel HB.out hx279_0 :); replace hx279_1 := (cel HB.out hx279_1 :); replace hx279_2 := (cel HB.out hx279_2 :); replace hx279_3 := (cel HB.out hx279_3 :); replace p279 := eq_true p279; replace q279 := eq_true q279; have p280 : 0 ≤ (x5_1 : Int) := of_decide_eq_true (by first | (with_reducible assumption) | assumption); have q280 : x5_1 < (l0.length : Int) := of_decide_eq_true (by first | (with_reducible assumption) | assumption); obtain ⟨ad280, e280, hx280_0, hx280_1, hx280_2, hx280_3⟩ := at_T68 HR0.out x5_1 p280 q280; obtain rfl : ad279 = ad280 := (by injection e280); replace hx280_0 := (cel HB.out hx280_0 :); replace hx280_1 := (cel HB.out hx280_1 :); replace hx280_2 := (cel HB.out hx280_2 :); replace hx280_3 := (cel HB.out hx280_3 :); replace p280 := eq_true p280; replace q280 := eq_true q280))
   repeat (go_quiet (first | (go_at_call 55; (with_reducible refine (impl_memberOf.calls k1 _ _ l0 (rd l1 x11_1) t278 _ ?side1 ?side2 A6.out).mono ?_); (case side1 => exact (Kd.C_below HR0.out (below_up HB.out))); (case side2 => exact HC0.out); rintro e w16 ⟨rfl, hb⟩; have n0_ := Aside0.mk (below_step (below_up HB.out) hb); replace HB := n0_; clear n0_; (try clear hb); (try clear hb2); (try clear hk); (try clear hi); have p279 : 0 ≤ (t278 : Int) := of_decide_eq_true (by first | (with_reducible assumption) | assumption); have q279 : t278 < (l0.length : Int) := of_decide_eq_true (by first | (with_reducible assumption) | assumption); obtain ⟨ad279, e279, hx279_0, hx279_1, hx279_2, hx279_3⟩ := at_T68 HR0.out t278 p279 q279; cases e279; replace hx279_0 := (cel HB.out hx279_0 :); replace hx279_1 := (cel HB.out hx279_1 :); replace hx279_2 := (cel HB.out hx279_2 :); replace hx279_3 := (cel HB.out hx279_3 :); replace p279 := eq_true p279; replace q279 := eq_true q279; have p280 : 0 ≤ (x5_1 : Int) := of_decide_eq_true (by first | (with_reducible assumption) | assumption); have q280 : x5_1 < (l0.length : Int) := of_decide_eq_true (by first | (with_reducible assumption) | assumption); obtain ⟨ad280, e280, hx280_0, hx280_1, hx280_2, hx280_3⟩ := at_T68 HR0.out x5_1 p280 q280; obtain rfl : ad279 = ad280 := (by injection e280); replace hx280_0 := (cel HB.out hx280_0 :); replace hx280_1 := (cel HB.out hx280_1 :); replace hx280_2 := (cel HB.out hx280_2 :); replace hx280_3 := (cel HB.out hx280_3 :); replace p280 := eq_true p280; replace q280 := eq_true q280)); try go_wp2_with (first | (go_at_call 55; (with_reducible refine (impl_memberOf.calls k1 _ _ l0 (rd l1 x11_1) t278 _ ?side1 ?side2 A6.out).mono ?_); (case side1 => exact (Kd.C_below HR0.out (below_up HB.out))); (case side2 => exact HC0.out); rintro e w16 ⟨rfl, hb⟩; have n0_ := Aside0.mk (below_step (below_up HB.out) hb); replace HB := n0_; clear n0_; (try clear hb); (try clear hb2); (try clear hk); (try clear hi); have p279 : 0 ≤ (t278 : Int) := of_decide_eq_true (by first | (with_reducible assumption) | assumption); have q279 : t278 < (l0.length : Int) := of_decide_eq_true (by first | (with_reducible assumption) | assumption); obtain ⟨ad279, e279, hx279_0, hx279_1, hx279_2, hx279_3⟩ := at_T68 HR0.out t278 p279 q279; cases e279; replace hx279_0 := (cel HB.out hx279_0 :); replace hx279_1 := (cel HB.out hx279_1 :); replace hx279_2 := (cel HB.out hx279_2 :); replace hx279_3 := (cel HB.out hx279_3 :); replace p279 := eq_true p279; replace q279 := eq_true q279; have p280 : 0 ≤ (x5_1 : Int) := of_decide_eq_true (by first | (with_reducible assumption) | assumption); have q280 : x5_1 < (l0.length : Int) := of_decide_eq_true (by first | (with_reducible assumption) | assumption); obtain ⟨ad280, e280, hx280_0, hx280_1, hx280_2, hx280_3⟩ := at_T68 HR0.out x5_1 p280 q280; obtain rfl : ad279 = ad280 := (by injection e280); replace hx280_0 := (cel HB.out hx280_0 :); replace hx280_1 := (cel HB.out hx280_1 :); replace hx280_2 := (cel HB.out hx280_2 :); replace hx280_3 := (cel HB.out hx280_3 :); replace p280 := eq_true p280; replace q280 := eq_true q280)))
   go_roundg k1
   case measure => have := HK1.out; omega
   case rel => exact ⟨(x5_1), (wrap64 (x11_1 + 1)), (by first | rfl | (simp; done) | (simp [*]; done)), (by first | rfl | (simp; done) | (simp [*]; done)), H', ⟨by have := HK1.out; omega⟩, ⟨below_up HB.out⟩⟩

/-! ### laws_contains: function 19 -/
def laws_contains.l0 : Nat → List Int → Int → Int → Option (Bool)
 | 0, _, _, _ => none
 | k + 1, x0, x1, x5 => if x5 < (x0.length : Int) then (if 0 ≤ x5 then (if (rd x0 x5) = x1 then (some true) else (laws_contains.l0 k x0 x1 (wrap64 (x5 + 1)))) else (none)) else (some false)
def laws_contains.f (k : Nat) (l0 : List Int) (a1 : Int) : Option (Bool) := laws_contains.l0 k l0 a1 0
theorem laws_contains.mono_l : ∀ k, (∀ y0 y1 y2, LeO (laws_contains.l0 k y0 y1 y2) (laws_contains.l0 (k + 1) y0 y1 y2))
 | 0 => fun _ _ _ r h => by simp [laws_contains.l0] at h
 | k + 1 => by
  have ih0 := laws_contains.mono_l k
  · intro y0 y1 y2
    unfold laws_contains.l0
    repeat' first
    | (with_reducible exact ih0 _ _ _)
    | (with_reducible exact LeO.refl _)
    | (with_reducible exact LeO.none _)
    | (with_reducible refine LeO.ite ?_ ?_)
    | (with_reducible refine LeO.bind ?_ (fun _ => ?_))
    | exact ih0 _ _ _
    | exact LeO.none _
    | refine LeO.ite ?_ ?_
    | refine LeO.bind ?_ (fun _ => ?_)
theorem laws_contains.mono : ∀ a0 a1 k, LeO (laws_contains.f k a0 a1) (laws_contains.f (k + 1) a0 a1) := by
 intro a0 a1 k
 have ih0 := laws_contains.mono_l k
 unfold laws_contains.f
 repeat' first
  | (with_reducible exact ih0 _ _ _)
  | (with_reducible exact LeO.refl _)
  | (with_reducible exact LeO.none _)
  | (with_reducible refine LeO.ite ?_ ?_)
  | (with_reducible refine LeO.bind ?_ (fun _ => ?_))
  | exact ih0 _ _ _
  | exact LeO.none _
  | refine LeO.ite ?_ ?_
  | refine LeO.bind ?_ (fun _ => ?_)
set_option maxHeartbeats 8000000 in
set_option maxRecDepth 100000 in
theorem laws_contains.calls (k : Nat) (A0 : Option Addr) (c0 : Nat) (l0 : List Int) (a1 : Int) (r : Bool) (w : World) (hr0 : Kd.C (Kd.int .i64) w A0 l0.length l0) (hc0 : l0.length ≤ c0) (h : laws_contains.f k l0 a1 = some r) :
 Calls Try.prog 19 #[.slice A0 l0.length c0, .int .i64 a1] w fun e w' => e = .returned (.bool r) ∧ Drawn0 w w' := by
 have HR0 := Aside0.mk hr0
 have HC0 := Aside0.mk hc0
 clear hr0 hc0
 have H : (laws_contains.l0 k l0 a1 0) = some r := h
 clear h
 have H' := Aside0.mk H
 clear H
 go_enter Try.func19, Try.ntmps19
 go_wp2
 go_loopg [5] k (fun kq v5 w' => ∃ (x5_1 : Int), v5 = .int .i64 x5_1 ∧ Aside0 (laws_contains.l0 kq l0 a1 x5_1 = some r) ∧ Aside0 (kq ≤ k) ∧ Drawn0 w w')
 case atStart => exact ⟨(0), (by first | rfl | (simp; done) | (simp [*]; done)), H', ⟨Nat.le_refl _⟩, by repeat (first | exact Drawn0.refl _ | apply Drawn0.step)⟩
 case round =>
  clear H'
  try clear c1
  try clear p2
  obtain ⟨x5_1, rfl, HA, HK1, ⟨m1, rfl⟩⟩ := hrel
  cases gk with
  | zero => exact absurd HA.out (by simp [laws_contains.l0])
  | succ k1 =>
   have H := HA.out
   clear HA
   simp only [laws_contains.l0] at H
   by_cases c3 : x5_1 < (l0.length : Int)
   rotate_left
   · rw [if_neg c3] at H
     have c3b0 : decide (x5_1 < (l0.length : Int)) = false := decide_eq_false c3
     clear c3
     obtain rfl := Option.some.inj H
     go_wp2
     go_ret
     exact ⟨by first | rfl | (simp; done) | (simp [*]; done), by repeat (first | exact Drawn0.refl _ | apply Drawn0.step)⟩
   rw [if_pos c3] at H
   have c3b0 : decide (x5_1 < (l0.length : Int)) = true := decide_eq_true c3
   clear c3
   by_cases c4 : 0 ≤ x5_1
   rotate_left
   · rw [if_neg c4] at H
     exact absurd H (by simp)
   rw [if_pos c4] at H
   have c4b0 : decide (0 ≤ x5_1) = true := decide_eq_true c4
   clear c4
   by_cases c5 : (rd l0 x5_1) = a1
   · rw [if_pos c5] at H
     have c5b0 : ((rd l0 x5_1) == a1) = true := beq_iff_eq.mpr c5
     have c5b1 : ((rd l0 x5_1) != a1) = false := bne_eq_false_iff_eq.mpr c5
     clear c5
     obtain rfl := Option.some.inj H
     have p282 : 0 ≤ (x5_1 : Int) := of_decide_eq_true (by first | (with_reducible assumption) | assumption)
     have q282 : x5_1 < (l0.length : Int) := of_decide_eq_true (by first | (with_reducible assumption) | assumption)
     obtain ⟨ad282, e282, hx282_0⟩ := Kd.at_int HR0.out x5_1 p282 q282
     cases e282
     replace p282 := eq_true p282
     replace q282 := eq_true q282
     go_wp2
     go_ret
     exact ⟨by first | rfl | (simp; done) | (simp [*]; done), by repeat (first | exact Drawn0.refl _ | apply Drawn0.step)⟩
   rw [if_neg c5] at H
   have c5b0 : ((rd l0 x5_1) == a1) = false := beq_eq_false_iff_ne.mpr c5
   have c5b1 : ((rd l0 x5_1) != a1) = true := bne_iff_ne.mpr c5
   have H' := Aside0.mk H
   clear H
   have p282 : 0 ≤ (x5_1 : Int) := of_decide_eq_true (by first | (with_reducible assumption) | assumption)
   have q282 : x5_1 < (l0.length : Int) := of_decide_eq_true (by first | (with_reducible assumption) | assumption)
   obtain ⟨ad282, e282, hx282_0⟩ := Kd.at_int HR0.out x5_1 p282 q282
   cases e282
   replace p282 := eq_true p282
   replace q282 := eq_true q282
   go_wp2
   go_roundg k1
   case measure => have := HK1.out; omega
   case rel => exact ⟨(wrap64 (x5_1 + 1)), (by first | rfl | (simp; done) | (simp [*]; done)), H', ⟨by have := HK1.out; omega⟩, by repeat (first | exact Drawn0.refl _ | apply Drawn0.step)⟩

/-! ### spec_Healthy: function 21 -/
def spec_Healthy.l0 : Nat → List (S68) → List Int → Int → Option (List Int)
 | 0, _, _, _ => none
 | k + 1, x0, x3, x4 => if x4 < (x0.length : Int) then (if 0 ≤ x4 then (if ((rd_T68 x0 x4).f3 = true) then (spec_Healthy.l0 k x0 x3 (wrap64 (x4 + 1))) else (if x3.length < 17592186044416 then (spec_Healthy.l0 k x0 (x3 ++ [(rd_T68 x0 x4).f0]) (wrap64 (x4 + 1))) else (none))) else (none)) else (some x3)
def spec_Healthy.f (k : Nat) (l0 : List (S68)) : Option (List Int) := spec_Healthy.l0 k l0 (([] : List Int)) 0
theorem spec_Healthy.mono_l : ∀ k, (∀ y0 y1 y2, LeO (spec_Healthy.l0 k y0 y1 y2) (spec_Healthy.l0 (k + 1) y0 y1 y2))
 | 0 => fun _ _ _ r h => by simp [spec_Healthy.l0] at h
 | k + 1 => by
  have ih0 := spec_Healthy.mono_l k
  · intro y0 y1 y2
    unfold spec_Healthy.l0
    repeat' first
    | (with_reducible exact ih0 _ _ _)
    | (with_reducible exact LeO.refl _)
    | (with_reducible exact LeO.none _)
    | (with_reducible refine LeO.ite ?_ ?_)
    | (with_reducible refine LeO.bind ?_ (fun _ => ?_))
    | exact ih0 _ _ _
    | exact LeO.none _
    | refine LeO.ite ?_ ?_
    | refine LeO.bind ?_ (fun _ => ?_)
theorem spec_Healthy.mono : ∀ a0 k, LeO (spec_Healthy.f k a0) (spec_Healthy.f (k + 1) a0) := by
 intro a0 k
 have ih0 := spec_Healthy.mono_l k
 unfold spec_Healthy.f
 repeat' first
  | (with_reducible exact ih0 _ _ _)
  | (with_reducible exact LeO.refl _)
  | (with_reducible exact LeO.none _)
  | (with_reducible refine LeO.ite ?_ ?_)
  | (with_reducible refine LeO.bind ?_ (fun _ => ?_))
  | exact ih0 _ _ _
  | exact LeO.none _
  | refine LeO.ite ?_ ?_
  | refine LeO.bind ?_ (fun _ => ?_)
set_option maxHeartbeats 8000000 in
set_option maxRecDepth 100000 in
theorem spec_Healthy.calls (k : Nat) (A0 : Option Addr) (c0 : Nat) (l0 : List (S68)) (r : List Int) (w : World) (hr0 : Kd.C k68 w A0 l0.length l0) (hc0 : l0.length ≤ c0) (h : spec_Healthy.f k l0 = some r) :
 Calls Try.prog 21 #[.slice A0 l0.length c0] w fun e w' => ∃ v0_ : Value, e = .returned (v0_) ∧ Kd.R (Kd.int .i64) 3 w' w.heap.size (fun _ => True) v0_ r ∧ Below w.heap.size w w' := by
 have HR0 := Aside0.mk hr0
 have HC0 := Aside0.mk hc0
 clear hr0 hc0
 have HB := Aside0.mk (Below.refl w.heap.size w)
 have H : (spec_Healthy.l0 k l0 (([] : List Int)) 0) = some r := h
 clear h
 obtain ⟨y283, hy283⟩ : ∃ y_ : List Int, y_ = (([] : List Int)) := ⟨_, rfl⟩
 replace H : (spec_Healthy.l0 k l0 y283 0) = some r := by first | (rw [hy283]; with_reducible exact H) | (have H2_ := (Option.bind_some _ _).symm.trans H; rw [hy283]; with_reducible exact H2_) | (have H2_ := (Option.bind_some _ _).symm.trans H; with_reducible exact H2_) | with_reducible exact H | (rw [hy283]; exact H) | exact H
 have Ny283 := Aside0.mk hy283
 clear hy283
 have H' := Aside0.mk H
 clear H
 go_enter Try.func21, Try.ntmps21
 go_wp2_with (first | ((with_reducible refine gate_dst (N := 5) rfl ?_); refine Kd.R_lit (Kd.int .i64) _ 3 ?hg (N := 5) ?hd (xs := ([] : List Int)) (inner := []) (ok := fun _ => True) (okp := fun _ => True) ?hr ?hp (fun _ hk => hk) trivial (Below.refl _ _) (Nat.le_refl _) (by simp) ?_; (case hd => rfl); (case hg => rfl); (case hr => first | (go_simp; done) | (go_simp; rfl)); (case hp => exact (Reps.none _ _)); intro v284 w2 ho3 hb hg_ hnew_; clear hg_ hnew_; (first | rw [← Ny283.out] at ho3 | (simp only [Int.reduceToNat] at ho3; rw [← Ny283.out] at ho3)); have n0_ := Aside0.mk (Kd.R_lower ho3 (below_size (below_up HB.out))); have n1_ := Aside0.mk (below_step (below_up HB.out) hb); have HO285 := n0_; replace HB := n1_; clear n0_ n1_; clear hb ho3))
 go_loopg [3, 4] k (fun kq v3 v4 w' => ∃ (x3_1 : List Int) (x4_1 : Int), v4 = .int .i64 x4_1 ∧ Aside0 (spec_Healthy.l0 kq l0 x3_1 x4_1 = some r) ∧ Aside0 (kq ≤ k) ∧ Aside0 (Kd.R (Kd.int .i64) 3 w' w.heap.size (fun _ => True) v3 x3_1) ∧ Aside0 (Below w.heap.size w w'))
 case atStart => exact ⟨(y283), (0), (by first | rfl | (simp; done) | (simp [*]; done)), H', ⟨Nat.le_refl _⟩, ⟨by (with_reducible repeat (first | apply Kd.R_alloc | apply Kd.R_drewN | apply Kd.R_drew)); exact HO285.out⟩, ⟨below_up HB.out⟩⟩
 case round =>
  clear H'
  try clear c2
  try clear p2
  obtain ⟨x3_1, x4_1, rfl, HA, HK1, HO_3, HB⟩ := hrel
  cases gk with
  | zero => exact absurd HA.out (by simp [spec_Healthy.l0])
  | succ k1 =>
   have H := HA.out
   clear HA
   simp only [spec_Healthy.l0] at H
   by_cases c4 : x4_1 < (l0.length : Int)
   rotate_left
   · rw [if_neg c4] at H
     have c4b0 : decide (x4_1 < (l0.length : Int)) = false := decide_eq_false c4
     clear c4
     obtain rfl := Option.some.inj H
     go_wp2
     go_ret
     exact ⟨_, by first | rfl | (simp [errW_none, errW_some] <;> rfl) | (simp [*, errW_none, errW_some] <;> rfl), by (with_reducible repeat (first | apply Kd.R_alloc | apply Kd.R_drewN | apply Kd.R_drew)); exact HO_3.out, below_up HB.out⟩
   rw [if_pos c4] at H
   have c4b0 : decide (x4_1 < (l0.length : Int)) = true := decide_eq_true c4
   clear c4
   by_cases c5 : 0 ≤ x4_1
   rotate_left
   · rw [if_neg c5] at H
     exact absurd H (by simp)
   rw [if_pos c5] at H
   have c5b0 : decide (0 ≤ x4_1) = true := decide_eq_true c5
   clear c5
   obtain ⟨bq6, hbq6⟩ : ∃ b_ : Bool, b_ = ((rd_T68 l0 x4_1).f3) := ⟨_, rfl⟩
   replace H : (if (bq6 = true) then (spec_Healthy.l0 k1 l0 x3_1 (wrap64 (x4_1 + 1))) else (if x3_1.length < 17592186044416 then (spec_Healthy.l0 k1 l0 (x3_1 ++ [(rd_T68 l0 x4_1).f0]) (wrap64 (x4_1 + 1))) else (none))) = some r := by rw [← hbq6] at H; exact H
   have Nbq6 := Aside0.mk hbq6
   clear hbq6
   by_cases c7 : (bq6 = true)
   · subst c7
     rw [if_pos rfl] at H
     have H' := Aside0.mk H
     clear H
     have p286 : 0 ≤ (x4_1 : Int) := of_decide_eq_true (by first | (with_reducible assumption) | assumption)
     have q286 : x4_1 < (l0.length : Int) := of_decide_eq_true (by first | (with_reducible assumption) | assumption)
     obtain ⟨ad286, e286, hx286_0, hx286_1, hx286_2, hx286_3⟩ := at_T68 HR0.out x4_1 p286 q286
     (try rw [← Nbq6.out] at hx286_3)
     cases e286
     replace hx286_0 := (cel HB.out hx286_0 :)
     replace hx286_1 := (cel HB.out hx286_1 :)
     replace hx286_2 := (cel HB.out hx286_2 :)
     replace hx286_3 := (cel HB.out hx286_3 :)
     replace p286 := eq_true p286
     replace q286 := eq_true q286
     go_wp2
     go_roundg k1
     case measure => have := HK1.out; omega
     case rel => exact ⟨(x3_1), (wrap64 (x4_1 + 1)), (by first | rfl | (simp; done) | (simp [*]; done)), H', ⟨by have := HK1.out; omega⟩, ⟨by (with_reducible repeat (first | apply Kd.R_alloc | apply Kd.R_drewN | apply Kd.R_drew)); exact HO_3.out⟩, ⟨below_up HB.out⟩⟩
   replace c7 := Bool.eq_false_iff.mpr c7
   subst c7
   rw [if_neg (show ¬ (false = true) by decide)] at H
   by_cases c8 : x3_1.length < 17592186044416
   rotate_left
   · rw [if_neg c8] at H
     exact absurd H (by simp)
   rw [if_pos c8] at H
   have LMc8 := Aside0.mk c8
   clear c8
   obtain ⟨y288, hy288⟩ : ∃ y_ : List Int, y_ = (x3_1 ++ [(rd_T68 l0 x4_1).f0]) := ⟨_, rfl⟩
   replace H : (spec_Healthy.l0 k1 l0 y288 (wrap64 (x4_1 + 1))) = some r := by first | (rw [hy288]; with_reducible exact H) | (have H2_ := (Option.bind_some _ _).symm.trans H; rw [hy288]; with_reducible exact H2_) | (have H2_ := (Option.bind_some _ _).symm.trans H; with_reducible exact H2_) | with_reducible exact H | (rw [hy288]; exact H) | exact H
   have Ny288 := Aside0.mk hy288
   clear hy288
   have H' := Aside0.mk H
   clear H
   have p286 : 0 ≤ (x4_1 : Int) := of_decide_eq_true (by first | (with_reducible assumption) | assumption)
   have q286 : x4_1 < (l0.length : Int) := of_decide_eq_true (by first | (with_reducible assumption) | assumption)
   obtain ⟨ad286, e286, hx286_0, hx286_1, hx286_2, hx286_3⟩ := at_T68 HR0.out x4_1 p286 q286
   (try rw [← Nbq6.out] at hx286_3)
   cases e286
   replace hx286_0 := (cel HB.out hx286_0 :)
   replace hx286_1 := (cel HB.out hx286_1 :)
   replace hx286_2 := (cel HB.out hx286_2 :)
   replace hx286_3 := (cel HB.out hx286_3 :)
   replace p286 := eq_true p286
   replace q286 := eq_true q286
   have p287 : 0 ≤ (x4_1 : Int) := of_decide_eq_true (by first | (with_reducible assumption) | assumption)
   have q287 : x4_1 < (l0.length : Int) := of_decide_eq_true (by first | (with_reducible assumption) | assumption)
   obtain ⟨ad287, e287, hx287_0, hx287_1, hx287_2, hx287_3⟩ := at_T68 HR0.out x4_1 p287 q287
   (try rw [← Nbq6.out] at hx287_3)
   obtain rfl : ad286 = ad287 := (by injection e287)
   replace hx287_0 := (cel HB.out hx287_0 :)
   replace hx287_1 := (cel HB.out hx287_1 :)
   replace hx287_2 := (cel HB.out hx287_2 :)
   replace hx287_3 := (cel HB.out hx287_3 :)
   replace p287 := eq_true p287
   replace q287 := eq_true q287
   go_wp2_with (first | ((with_reducible refine gate_builtin (b := .append) (xs := #[.tmp 18, .tmp 24]) rfl ?_); at_builtin; refine Kd.R_append (Kd.int .i64) (w0 := w) w.heap.size rfl (.tmp 18) (.tmp 24) 36 3 (.int .i64 0) 8 rfl Try.underlying36 info3 rfl (by decide) (by omega) u3 x3_1 ((rd_T68 l0 x4_1).f0) [.int .i64 ((rd_T68 l0 x4_1).f0)] (fun _ => True) (fun _ => False) rfl rfl ?aP (fun _ hk => hk.elim) ?aF ?aO ?aB ?aS ?aL ?_; (case aP => exact rfl); (case aB => exact (below_up HB.out)); (case aF => exact (fun _ _ => trivial)); (case aO => exact (by (with_reducible repeat (first | apply Kd.R_alloc | apply Kd.R_drewN | apply Kd.R_drew)); exact HO_3.out)); (case aS => exact (below_size (below_up HB.out))); (case aL => have := LMc8.out; omega); intro v289 w9 ho hb hg hat; rw [← Ny288.out] at ho; have n0_ := Aside0.mk (hb); have n1_ := Aside0.mk (ho); clear HB; clear HO_3; have HB := n0_; have HO290 := n1_; clear n0_ n1_; clear ho hb hg hat))
   go_roundg k1
   case measure => have := HK1.out; omega
   case rel => exact ⟨(y288), (wrap64 (x4_1 + 1)), (by first | rfl | (simp; done) | (simp [*]; done)), H', ⟨by have := HK1.out; omega⟩, ⟨by (with_reducible repeat (first | apply Kd.R_alloc | apply Kd.R_drewN | apply Kd.R_drew)); exact HO290.out⟩, ⟨below_up HB.out⟩⟩

/-! ### impl_CanRope: function 22 -/
def impl_CanRope.f (k : Nat) (l0 : List (S68)) : Option (Bool) := (impl_RopeTeams.f k l0).bind fun t291 => (some (decide ((t291.length : Int) > 0)))
theorem impl_CanRope.mono : ∀ a0 k, LeO (impl_CanRope.f k a0) (impl_CanRope.f (k + 1) a0) := by
 intro a0 k
 unfold impl_CanRope.f
 repeat' first
  | (with_reducible exact impl_RopeTeams.mono _ _)
  | (with_reducible exact LeO.refl _)
  | (with_reducible exact LeO.none _)
  | (with_reducible refine LeO.ite ?_ ?_)
  | (with_reducible refine LeO.bind ?_ (fun _ => ?_))
  | exact impl_RopeTeams.mono _ _
  | exact LeO.none _
  | refine LeO.ite ?_ ?_
  | refine LeO.bind ?_ (fun _ => ?_)
set_option maxHeartbeats 8000000 in
set_option maxRecDepth 100000 in
theorem impl_CanRope.calls (k : Nat) (A0 : Option Addr) (c0 : Nat) (l0 : List (S68)) (r : Bool) (w : World) (hr0 : Kd.C k68 w A0 l0.length l0) (hc0 : l0.length ≤ c0) (h : impl_CanRope.f k l0 = some r) :
 Calls Try.prog 22 #[.slice A0 l0.length c0] w fun e w' => e = .returned (.bool r) ∧ Below w.heap.size w w' := by
 have HR0 := Aside0.mk hr0
 have HC0 := Aside0.mk hc0
 clear hr0 hc0
 have HB := Aside0.mk (Below.refl w.heap.size w)
 have H : ((impl_RopeTeams.f k l0).bind fun t291 => (some (decide ((t291.length : Int) > 0)))) = some r := h
 clear h
 replace H := Option.bind_eq_some_iff.mp H
 obtain ⟨t291, A20, H⟩ := H
 have A2 := Aside0.mk A20
 clear A20
 obtain rfl := Option.some.inj H
 go_enter Try.func22, Try.ntmps22
 go_wp2_with (first | ((with_reducible refine gate_callee (f := 10) rfl ?_); refine goesL_ (some 4) rfl rfl Try.func10 (by kernel_rfl) rfl #[.slice A0 l0.length c0] rfl (by (try simp only [am_]); first | done | rfl) ?_; (with_reducible refine (impl_RopeTeams.calls k _ _ l0 t291 _ ?side1 ?side2 A2.out).mono ?_); (case side1 => exact Kd.C_up HR0.out); (case side2 => exact HC0.out); rintro e w3 ⟨v292, rfl, ho0, hb⟩; refine ⟨_, rfl, ?_⟩; have n0_ := Aside0.mk (Kd.S_lower ho0 (below_size (below_up HB.out))); have n1_ := Aside0.mk (below_step (below_up HB.out) hb); have HO293 := n0_; replace HB := n1_; clear n0_ n1_; (try clear hb); (try clear hb2); (try clear hk); (try clear hi); (try clear ho0); obtain ⟨Ao4, co4, eo4⟩ := Kd.S_slice HO293.out; subst eo4))
 go_ret
 exact ⟨by first | rfl | (simp [errW_none, errW_some] <;> rfl) | (simp [*, errW_none, errW_some] <;> rfl), below_up HB.out⟩

/-! ### impl_placeOf: function 75 -/
def impl_placeOf.l0 : Nat → Int → List Int → Int → Int → Option (Int)
 | 0, _, _, _, _ => none
 | k + 1, x1, x7, x8, x9 => if x9 < x8 then (if 0 ≤ x9 then (if x9 < (x7.length : Int) then (if (rd x7 x9) = x1 then (some x9) else (impl_placeOf.l0 k x1 x7 x8 (wrap64 (x9 + 1)))) else (none)) else (none)) else (some (-1))
def impl_placeOf.f (k : Nat) (l0 : List Int) (a1 : Int) : Option (Int) := impl_placeOf.l0 k a1 l0 (l0.length : Int) 0
theorem impl_placeOf.mono_l : ∀ k, (∀ y0 y1 y2 y3, LeO (impl_placeOf.l0 k y0 y1 y2 y3) (impl_placeOf.l0 (k + 1) y0 y1 y2 y3))
 | 0 => fun _ _ _ _ r h => by simp [impl_placeOf.l0] at h
 | k + 1 => by
  have ih0 := impl_placeOf.mono_l k
  · intro y0 y1 y2 y3
    unfold impl_placeOf.l0
    repeat' first
    | (with_reducible exact ih0 _ _ _ _)
    | (with_reducible exact LeO.refl _)
    | (with_reducible exact LeO.none _)
    | (with_reducible refine LeO.ite ?_ ?_)
    | (with_reducible refine LeO.bind ?_ (fun _ => ?_))
    | exact ih0 _ _ _ _
    | exact LeO.none _
    | refine LeO.ite ?_ ?_
    | refine LeO.bind ?_ (fun _ => ?_)
theorem impl_placeOf.mono : ∀ a0 a1 k, LeO (impl_placeOf.f k a0 a1) (impl_placeOf.f (k + 1) a0 a1) := by
 intro a0 a1 k
 have ih0 := impl_placeOf.mono_l k
 unfold impl_placeOf.f
 repeat' first
  | (with_reducible exact ih0 _ _ _ _)
  | (with_reducible exact LeO.refl _)
  | (with_reducible exact LeO.none _)
  | (with_reducible refine LeO.ite ?_ ?_)
  | (with_reducible refine LeO.bind ?_ (fun _ => ?_))
  | exact ih0 _ _ _ _
  | exact LeO.none _
  | refine LeO.ite ?_ ?_
  | refine LeO.bind ?_ (fun _ => ?_)
set_option maxHeartbeats 8000000 in
set_option maxRecDepth 100000 in
theorem impl_placeOf.calls (k : Nat) (A0 : Option Addr) (c0 : Nat) (l0 : List Int) (a1 : Int) (r : Int) (w : World) (hr0 : Kd.C (Kd.int .i64) w A0 l0.length l0) (hc0 : l0.length ≤ c0) (h : impl_placeOf.f k l0 a1 = some r) :
 Calls Try.prog 75 #[.slice A0 l0.length c0, .int .i64 a1] w fun e w' => e = .returned (.int .i64 r) ∧ Drawn0 w w' := by
 have HR0 := Aside0.mk hr0
 have HC0 := Aside0.mk hc0
 clear hr0 hc0
 have H : (impl_placeOf.l0 k a1 l0 (l0.length : Int) 0) = some r := h
 clear h
 have H' := Aside0.mk H
 clear H
 go_enter Try.func75, Try.ntmps75
 go_wp2
 go_loopg [9] k (fun kq v9 w' => ∃ (x9_1 : Int), v9 = .int .i64 x9_1 ∧ Aside0 (impl_placeOf.l0 kq a1 l0 (l0.length : Int) x9_1 = some r) ∧ Aside0 (kq ≤ k) ∧ Drawn0 w w')
 case atStart => exact ⟨(0), (by first | rfl | (simp; done) | (simp [*]; done)), H', ⟨Nat.le_refl _⟩, by repeat (first | exact Drawn0.refl _ | apply Drawn0.step)⟩
 case round =>
  clear H'
  try clear p2
  obtain ⟨x9_1, rfl, HA, HK1, ⟨m1, rfl⟩⟩ := hrel
  cases gk with
  | zero => exact absurd HA.out (by simp [impl_placeOf.l0])
  | succ k1 =>
   have H := HA.out
   clear HA
   simp only [impl_placeOf.l0] at H
   by_cases c3 : x9_1 < (l0.length : Int)
   rotate_left
   · rw [if_neg c3] at H
     have c3b0 : decide (x9_1 < (l0.length : Int)) = false := decide_eq_false c3
     clear c3
     obtain rfl := Option.some.inj H
     go_wp2
     go_ret
     exact ⟨by first | rfl | (simp; done) | (simp [*]; done), by repeat (first | exact Drawn0.refl _ | apply Drawn0.step)⟩
   rw [if_pos c3] at H
   have c3b0 : decide (x9_1 < (l0.length : Int)) = true := decide_eq_true c3
   clear c3
   by_cases c4 : 0 ≤ x9_1
   rotate_left
   · rw [if_neg c4] at H
     exact absurd H (by simp)
   rw [if_pos c4] at H
   have c4b0 : decide (0 ≤ x9_1) = true := decide_eq_true c4
   clear c4
   by_cases c5 : x9_1 < (l0.length : Int)
   rotate_left
   · rw [if_neg c5] at H
     exact absurd H (by simp)
   rw [if_pos c5] at H
   have c5b0 : decide (x9_1 < (l0.length : Int)) = true := decide_eq_true c5
   clear c5
   by_cases c6 : (rd l0 x9_1) = a1
   · rw [if_pos c6] at H
     have c6b0 : ((rd l0 x9_1) == a1) = true := beq_iff_eq.mpr c6
     have c6b1 : ((rd l0 x9_1) != a1) = false := bne_eq_false_iff_eq.mpr c6
     clear c6
     obtain rfl := Option.some.inj H
     have p294 : 0 ≤ (x9_1 : Int) := of_decide_eq_true (by first | (with_reducible assumption) | assumption)
     have q294 : x9_1 < (l0.length : Int) := of_decide_eq_true (by first | (with_reducible assumption) | assumption)
     obtain ⟨ad294, e294, hx294_0⟩ := Kd.at_int HR0.out x9_1 p294 q294
     cases e294
     replace p294 := eq_true p294
     replace q294 := eq_true q294
     go_wp2
     go_ret
     exact ⟨by first | rfl | (simp; done) | (simp [*]; done), by repeat (first | exact Drawn0.refl _ | apply Drawn0.step)⟩
   rw [if_neg c6] at H
   have c6b0 : ((rd l0 x9_1) == a1) = false := beq_eq_false_iff_ne.mpr c6
   have c6b1 : ((rd l0 x9_1) != a1) = true := bne_iff_ne.mpr c6
   have H' := Aside0.mk H
   clear H
   have p294 : 0 ≤ (x9_1 : Int) := of_decide_eq_true (by first | (with_reducible assumption) | assumption)
   have q294 : x9_1 < (l0.length : Int) := of_decide_eq_true (by first | (with_reducible assumption) | assumption)
   obtain ⟨ad294, e294, hx294_0⟩ := Kd.at_int HR0.out x9_1 p294 q294
   cases e294
   replace p294 := eq_true p294
   replace q294 := eq_true q294
   go_wp2
   go_roundg k1
   case measure => have := HK1.out; omega
   case rel => exact ⟨(wrap64 (x9_1 + 1)), (by first | rfl | (simp; done) | (simp [*]; done)), H', ⟨by have := HK1.out; omega⟩, by repeat (first | exact Drawn0.refl _ | apply Drawn0.step)⟩

/-! ### impl_has: function 57 -/
def impl_has.f (k : Nat) (l0 : List Int) (a1 : Int) : Option (Bool) := (impl_placeOf.f k l0 a1).bind fun t295 => (some (decide (t295 ≥ 0)))
theorem impl_has.mono : ∀ a0 a1 k, LeO (impl_has.f k a0 a1) (impl_has.f (k + 1) a0 a1) := by
 intro a0 a1 k
 unfold impl_has.f
 repeat' first
  | (with_reducible exact impl_placeOf.mono _ _ _)
  | (with_reducible exact LeO.refl _)
  | (with_reducible exact LeO.none _)
  | (with_reducible refine LeO.ite ?_ ?_)
  | (with_reducible refine LeO.bind ?_ (fun _ => ?_))
  | exact impl_placeOf.mono _ _ _
  | exact LeO.none _
  | refine LeO.ite ?_ ?_
  | refine LeO.bind ?_ (fun _ => ?_)
set_option maxHeartbeats 8000000 in
set_option maxRecDepth 100000 in
theorem impl_has.calls (k : Nat) (A0 : Option Addr) (c0 : Nat) (l0 : List Int) (a1 : Int) (r : Bool) (w : World) (hr0 : Kd.C (Kd.int .i64) w A0 l0.length l0) (hc0 : l0.length ≤ c0) (h : impl_has.f k l0 a1 = some r) :
 Calls Try.prog 57 #[.slice A0 l0.length c0, .int .i64 a1] w fun e w' => e = .returned (.bool r) ∧ Drawn0 w w' := by
 have HR0 := Aside0.mk hr0
 have HC0 := Aside0.mk hc0
 clear hr0 hc0
 have H : ((impl_placeOf.f k l0 a1).bind fun t295 => (some (decide (t295 ≥ 0)))) = some r := h
 clear h
 replace H := Option.bind_eq_some_iff.mp H
 obtain ⟨t295, A30, H⟩ := H
 have A3 := Aside0.mk A30
 clear A30
 obtain rfl := Option.some.inj H
 go_enter Try.func57, Try.ntmps57
 go_wp2_with (first | ((with_reducible refine gate_callee (f := 75) rfl ?_); refine goesL_ (some 7) rfl rfl Try.func75 (by kernel_rfl) rfl #[.slice A0 l0.length c0, .int .i64 a1] rfl (by (try simp only [am_]); first | done | rfl) ?_; (with_reducible refine (impl_placeOf.calls k _ _ l0 a1 t295 _ ?side1 ?side2 A3.out).mono ?_); (case side1 => exact Kd.C_up HR0.out); (case side2 => exact HC0.out); rintro e w' ⟨rfl, ⟨nd, rfl⟩⟩; refine ⟨_, rfl, ?_⟩))
 go_ret
 exact ⟨by first | rfl | (simp; done) | (simp [*]; done), by repeat (first | exact Drawn0.refl _ | apply Drawn0.step)⟩

end Go.Proofs.Ytdgpnmbmnnmdcaa.PFnRopes
