/- Contracts of Go functions: what print.sh prints, written shorter by low.py. -/
import Derived.Test.YtdgpnmbmnnmdcabLow
import Derived.Test.YtdgpnmbmnnmdcabUp
import Derived.Test.YtdgpnmbmnnmdcabPFnExactNeedHomex0
import Derived.Test.YtdgpnmbmnnmdcabPFnExactNeedHomex1
namespace Go.Proofs.Ytdgpnmbmnnmdcab.PFnExactNeedHome
open Go.RowKit Go.Proofs.YtdgpnmbmnnmdcabW.PrintWords Go.Proofs.YtdgpnmbmnnmdcabW.PrintLast Go.Proofs.YtdgpnmbmnnmdcabW.PrintMore
attribute [local go_sem] max2_int min2_int max_two min_two max_three min_three max_four min_four   -- for this text's walks alone
set_option linter.unusedVariables false
set_option linter.unusedSimpArgs false

/-! ### spec_AreCrew: function 81 -/
def spec_AreCrew.l0 : Nat → List (S95) → Int → Option (Bool)
 | 0, _, _ => none
 | k + 1, x0, x3 => if x3 < (x0.length : Int) then (if 0 ≤ x3 then ((spec_l1In.f ((rd_T95 x0 x3).f0) 1 99).bind fun t213 => (if t213 = true then ((spec_l1In.f ((rd_T95 x0 x3).f1) 0 100).bind fun t215 => (if t215 = true then ((spec_l1In.f ((rd_T95 x0 x3).f2) 1 10).bind fun t217 => (if t217 = true then (if x3 > 0 then (if 0 ≤ (wrap64 (x3 - 1)) then (if (wrap64 (x3 - 1)) < (x0.length : Int) then (if ((rd_T95 x0 (wrap64 (x3 - 1))).f0) ≥ ((rd_T95 x0 x3).f0) then (some false) else (spec_AreCrew.l0 k x0 (wrap64 (x3 + 1)))) else (none)) else (none)) else (spec_AreCrew.l0 k x0 (wrap64 (x3 + 1)))) else (some false))) else (some false))) else (some false))) else (none)) else ((spec_l1In.f (x0.length : Int) 1 8).bind fun t211 => (some t211))
def spec_AreCrew.f (k : Nat) (l0 : List (S95)) : Option (Bool) := spec_AreCrew.l0 k l0 0
theorem spec_AreCrew.mono_l : ∀ k, (∀ y0 y1, LeO (spec_AreCrew.l0 k y0 y1) (spec_AreCrew.l0 (k + 1) y0 y1))
 | 0 => fun _ _ r h => by simp [spec_AreCrew.l0] at h
 | k + 1 => by
  have ih0 := spec_AreCrew.mono_l k
  · intro y0 y1
    unfold spec_AreCrew.l0
    repeat' first
    | (with_reducible exact ih0 _ _)
    | (with_reducible exact LeO.refl _)
    | (with_reducible exact LeO.none _)
    | (with_reducible refine LeO.ite ?_ ?_)
    | (with_reducible refine LeO.bind ?_ (fun _ => ?_))
    | exact ih0 _ _
    | exact LeO.none _
    | refine LeO.ite ?_ ?_
    | refine LeO.bind ?_ (fun _ => ?_)
theorem spec_AreCrew.mono : ∀ a0 k, LeO (spec_AreCrew.f k a0) (spec_AreCrew.f (k + 1) a0) := by
 intro a0 k
 have ih0 := spec_AreCrew.mono_l k
 unfold spec_AreCrew.f
 repeat' first
  | (with_reducible exact ih0 _ _)
  | (with_reducible exact LeO.refl _)
  | (with_reducible exact LeO.none _)
  | (with_reducible refine LeO.ite ?_ ?_)
  | (with_reducible refine LeO.bind ?_ (fun _ => ?_))
  | exact ih0 _ _
  | exact LeO.none _
  | refine LeO.ite ?_ ?_
  | refine LeO.bind ?_ (fun _ => ?_)
def spec_AreCrew.T4 : Bool × List (List Nat × List Nat) := (true, [([], []), ([], []), ([0, 1], [0, 1]), ([2], [2]), ([3], [3]), ([4], [4]), ([5], [5]), ([6, 5], [6]), ([7], [7]), ([7], [7]), ([8, 9, 7], [7, 8, 9]), ([10, 7], [7, 10]), ([11, 7], [7, 11]), ([12, 7, 7], [7, 12]), ([13, 7], [7, 13]), ([7, 14], [7, 14]), ([15, 13], [15]), ([16], [16]), ([16], [16]), ([17, 18, 16], [16, 17, 18]), ([19, 16], [16, 19]), ([20, 16], [16, 20]), ([21, 16, 16], [16, 21]), ([22, 16], [16, 22]), ([16, 23], [16, 23]), ([24, 22], [24]), ([25], [25]), ([26, 25], [25, 26]), ([27, 25, 25], [25, 27]), ([28], [28]), ([28], [28]), ([30, 28], [28, 30]), ([29, 31, 28], [28, 29, 31]), ([32, 28], [28, 32]), ([33, 28], [28, 33]), ([28], [28]), ([28], [28]), ([35, 36, 28], [28, 35, 36]), ([37, 28], [28, 37]), ([38, 28], [28, 38]), ([34, 39, 28], [28, 34, 39]), ([28, 40, 25], [25, 28, 40]), ([25, 41], [25, 41])])
def spec_AreCrew.B4 : List Nat := [0, 0, 3, 7, 15, 31, 63, 127, 255, 255, 1023, 2047, 4095, 8191, 16383, 32767, 65535, 131071, 131071, 524287, 1048575, 2097151, 4194303, 8388607, 16777215, 33554431, 67108863, 134217727, 268435455, 536870911, 536870911, 1610612735, 4294967295, 8589934591, 17179869183, 536870911, 536870911, 103616086015, 241055039487, 515932946431, 1099511627775, 2199023255551, 4398046511103]
theorem spec_AreCrew.tab4 : rtab .any (opsOf Try.f81 4) = spec_AreCrew.T4 := by kernel_rfl
theorem spec_AreCrew.bits4 : waitsOk spec_AreCrew.T4.2 spec_AreCrew.B4 = true := by kernel_rfl
set_option maxHeartbeats 8000000 in
set_option maxRecDepth 100000 in
theorem spec_AreCrew.calls (k : Nat) (A0 : Option Addr) (c0 : Nat) (l0 : List (S95)) (r : Bool) (w : World) (hr0 : Kd.C k95 w A0 l0.length l0) (hc0 : l0.length ≤ c0) (h : spec_AreCrew.f k l0 = some r) :
 Calls Try.prog 81 #[.slice A0 l0.length c0] w fun e w' => e = .returned (.bool r) ∧ Below w.heap.size w w' := by
 have HR0 := Aside0.mk hr0
 have HC0 := Aside0.mk hc0
 clear hr0 hc0
 have HB := Aside0.mk (Below.refl w.heap.size w)
 have H : (spec_AreCrew.l0 k l0 0) = some r := h
 clear h
 have H' := Aside0.mk H
 clear H
 go_enter Try.func81, Try.ntmps81
 go_wp2
 go_loopg [3] k (fun kq v3 w' => ∃ (x3_1 : Int), v3 = .int .i64 x3_1 ∧ Aside0 (spec_AreCrew.l0 kq l0 x3_1 = some r) ∧ Aside0 (kq ≤ k) ∧ Aside0 (Below w.heap.size w w'))
 case atStart => exact ⟨(0), (by first | rfl | (simp; done) | (simp [*]; done)), H', ⟨Nat.le_refl _⟩, ⟨below_up HB.out⟩⟩
 case round =>
  clear H'
  obtain ⟨x3_1, rfl, HA, HK1, HB⟩ := hrel
  cases gk with
  | zero => exact absurd HA.out (by simp [spec_AreCrew.l0])
  | succ k1 =>
   have H := HA.out
   clear HA
   simp only [spec_AreCrew.l0] at H
   by_cases c2 : x3_1 < (l0.length : Int)
   rotate_left
   · rw [if_neg c2] at H
     have c2b0 : decide (x3_1 < (l0.length : Int)) = false := decide_eq_false c2
     clear c2
     replace H := Option.bind_eq_some_iff.mp H
     obtain ⟨t211, A210, H⟩ := H
     have A21 := Aside0.mk A210
     clear A210
     obtain rfl := Option.some.inj H
     go_wp2_with (first | ((with_reducible refine gate_callee (f := 67) rfl ?_); refine goesL_ (some 55) rfl rfl Try.func67 (by kernel_rfl) rfl #[.int .i64 (l0.length : Int), .int .i64 1, .int .i64 8] rfl (by (try simp only [am_]); first | done | rfl) ?_; (with_reducible refine (spec_l1In.calls (l0.length : Int) 1 8 t211 _ A21.out).mono ?_); rintro e w' ⟨rfl, ⟨nd, rfl⟩⟩; refine ⟨_, rfl, ?_⟩))
     go_ret
     exact ⟨by first | rfl | (simp [errW_none, errW_some] <;> rfl) | (simp [*, errW_none, errW_some] <;> rfl), below_up HB.out⟩
   rw [if_pos c2] at H
   have c2b0 : decide (x3_1 < (l0.length : Int)) = true := decide_eq_true c2
   clear c2
   by_cases c3 : 0 ≤ x3_1
   rotate_left
   · rw [if_neg c3] at H
     exact absurd H (by simp)
   rw [if_pos c3] at H
   have c3b0 : decide (0 ≤ x3_1) = true := decide_eq_true c3
   clear c3
   replace H := Option.bind_eq_some_iff.mp H
   obtain ⟨t213, A40, H⟩ := H
   have A4 := Aside0.mk A40
   clear A40
   by_cases c5 : t213 = true
   rotate_left
   · replace c5 := Bool.eq_false_iff.mpr c5
     subst c5
     rw [if_neg (show ¬ (false = true) by decide)] at H
     obtain rfl := Option.some.inj H
     try go_wp2
     have n0_ := Aside0.mk (below_drew1 HB.out)
     clear HB
     have HB := n0_
     clear n0_
     have p212 : 0 ≤ (x3_1 : Int) := of_decide_eq_true (by first | (with_reducible assumption) | assumption)
     have q212 : x3_1 < (l0.length : Int) := of_decide_eq_true (by first | (with_reducible assumption) | assumption)
     obtain ⟨ad212, e212, hx212_0, hx212_1, hx212_2, hx212_3⟩ := at_T95 HR0.out x3_1 p212 q212
     have hw212_3 := hx212_3
     have hw212_2 := hx212_2
     have hw212_1 := hx212_1
     have hw212_0 := hx212_0
     cases e212
     replace hx212_0 := (cel HB.out hx212_0 :)
     replace hx212_1 := (cel HB.out hx212_1 :)
     replace hx212_2 := (cel HB.out hx212_2 :)
     replace hx212_3 := (cel HB.out hx212_3 :)
     replace p212 := eq_true p212
     replace q212 := eq_true q212
     refine start_ (n := 43) (S := fun w' => w'.cell? (ad212.add ((x3_1).toNat * 4)) = some (.int .i64 ((rd_T95 l0 x3_1).f0)) ∧ w'.cell? ⟨(ad212.add ((x3_1).toNat * 4)).block, (ad212.add ((x3_1).toNat * 4)).off + 1, none⟩ = some (.int .i64 ((rd_T95 l0 x3_1).f1)) ∧ w'.cell? ⟨(ad212.add ((x3_1).toNat * 4)).block, (ad212.add ((x3_1).toNat * 4)).off + 2, none⟩ = some (.int .i64 ((rd_T95 l0 x3_1).f2)) ∧ w'.cell? ⟨(ad212.add ((x3_1).toNat * 4)).block, (ad212.add ((x3_1).toNat * 4)).off + 3, none⟩ = some (.bool ((rd_T95 l0 x3_1).f3))) (ds := []) (ar 43 0 []) (by kernel_rfl) rfl rfl ⟨((cel HB.out hw212_0 :)), ((cel HB.out hw212_1 :)), ((cel HB.out hw212_2 :)), ((cel HB.out hw212_3 :))⟩ (fun hHeld => ?_); refine with_tabW spec_AreCrew.tab4 spec_AreCrew.bits4 (fun HT_ HW_ => ?_)
     generalize wr.drew = w20 at HB hx212_0 hx212_1 hx212_2 hx212_3 hHeld ⊢
     refine pu_ (i := 0) (N := 10) (v := ?_) (a' := ?_) (ar 43 1 []) rfl rfl (any_of HT_.out (by kernel_rfl)) ?_ ?_ ?_
     rotate_left
     · intro w'
       go_simp
       with_reducible rfl
     rotate_left
     · simp only [puts_]
       rfl
     refine pu_ (i := 1) (N := 11) (v := ?_) (a' := ?_) (ar 43 2 []) rfl rfl (any_of HT_.out (by kernel_rfl)) ?_ ?_ ?_
     rotate_left
     · intro w'
       go_simp
       with_reducible rfl
     rotate_left
     · simp only [puts_]
       rfl
     refine pu_ (i := 2) (N := 12) (v := ?_) (a' := ?_) (ar 43 3 []) rfl rfl (any_of HT_.out (by kernel_rfl)) ?_ ?_ ?_
     rotate_left
     · intro w'
       go_simp
       with_reducible rfl
     rotate_left
     · simp only [puts_]
       rfl
     refine pu_ (i := 3) (N := 13) (v := ?_) (a' := ?_) (ar 43 4 []) rfl rfl (any_of HT_.out (by kernel_rfl)) ?_ ?_ ?_
     rotate_left
     · intro w'
       go_simp
       with_reducible rfl
     rotate_left
     · simp only [puts_]
       rfl
     refine tk_ (i := 4) (N := 14) (v := ?_) (a' := ?_) (ar 43 5 []) rfl rfl (take_ofW HT_.out HW_.out (by kernel_rfl)) ?_ hHeld ?_ ?_
     rotate_left
     · rintro w' ⟨s0, s1, s2, s3⟩
       go_simp
       with_reducible rfl
     rotate_left
     · simp only [puts_]
       rfl
     refine one_ (i := 5) (N := some 15) (ar 43 6 []) rfl rfl (one_of HT_.out (by kernel_rfl)) (by decide) (fun K hK => ?_)
     refine goes_ Try.func67 (by kernel_rfl) rfl #[.int .i64 ((rd_T95 l0 x3_1).f0), .int .i64 1, .int .i64 99] (by rfl) rfl rfl (by (try simp only [am_]); first | done | rfl) ?_
     with_reducible refine (spec_l1In.calls ((rd_T95 l0 x3_1).f0) 1 99 false _ A4.out).mono ?_
     rintro e w' ⟨rfl, ⟨nd, rfl⟩⟩
     refine ⟨_, rfl, ?_⟩
     refine hK.out _ _ ⟨((cel HB.out hw212_0 :)), ((cel HB.out hw212_1 :)), ((cel HB.out hw212_2 :)), ((cel HB.out hw212_3 :))⟩ (fun hHeld => ?_)
     clear hK K
     refine norm_ (a' := ?_) ?_ ?_
     rotate_left
     · show Act.put _ (some 15) _ = _
       simp only [puts_]
       rfl
     refine pu_ (i := 6) (N := 16) (v := ?_) (a' := ?_) (ar 43 7 []) rfl rfl (any_of HT_.out (by kernel_rfl)) ?_ ?_ ?_
     rotate_left
     · intro w'
       go_simp
       with_reducible rfl
     rotate_left
     · simp only [puts_]
       rfl
     refine pu_ (i := 7) (N := 17) (v := ?_) (a' := ?_) (ar 43 8 []) rfl rfl (any_of HT_.out (by kernel_rfl)) ?_ ?_ ?_
     rotate_left
     · intro w'
       go_simp
       with_reducible rfl
     rotate_left
     · simp only [puts_]
       rfl
     refine pn_ (i := 8) (N := 18) (a' := ?_) (ar 43 9 []) rfl rfl (any_of HT_.out (by kernel_rfl)) ?_ ?_
     rotate_left
     · simp only [puts_]
       rfl
     refine pn_ (i := 9) (N := 19) (a' := ?_) (ar 43 10 []) rfl rfl (any_of HT_.out (by kernel_rfl)) ?_ ?_
     rotate_left
     · simp only [puts_]
       rfl
     refine pn_ (i := 10) (N := 20) (a' := ?_) (ar 43 11 []) rfl rfl (any_of HT_.out (by kernel_rfl)) ?_ ?_
     rotate_left
     · simp only [puts_]
       rfl
     refine pn_ (i := 11) (N := 21) (a' := ?_) (ar 43 12 []) rfl rfl (any_of HT_.out (by kernel_rfl)) ?_ ?_
     rotate_left
     · simp only [puts_]
       rfl
     refine pn_ (i := 12) (N := 22) (a' := ?_) (ar 43 13 []) rfl rfl (any_of HT_.out (by kernel_rfl)) ?_ ?_
     rotate_left
     · simp only [puts_]
       rfl
     refine pn_ (i := 13) (N := 23) (a' := ?_) (ar 43 14 []) rfl rfl (any_of HT_.out (by kernel_rfl)) ?_ ?_
     rotate_left
     · simp only [puts_]
       rfl
     refine pn_ (i := 14) (N := 24) (a' := ?_) (ar 43 15 []) rfl rfl (any_of HT_.out (by kernel_rfl)) ?_ ?_
     rotate_left
     · simp only [puts_]
       rfl
     refine pu_ (i := 15) (N := 25) (v := ?_) (a' := ?_) (ar 43 16 []) rfl rfl (any_of HT_.out (by kernel_rfl)) ?_ ?_ ?_
     rotate_left
     · intro w'
       go_simp
       with_reducible rfl
     rotate_left
     · simp only [puts_]
       rfl
     refine pu_ (i := 16) (N := 26) (v := ?_) (a' := ?_) (ar 43 17 []) rfl rfl (any_of HT_.out (by kernel_rfl)) ?_ ?_ ?_
     rotate_left
     · intro w'
       go_simp
       with_reducible rfl
     rotate_left
     · simp only [puts_]
       rfl
     refine pn_ (i := 17) (N := 27) (a' := ?_) (ar 43 18 []) rfl rfl (any_of HT_.out (by kernel_rfl)) ?_ ?_
     rotate_left
     · simp only [puts_]
       rfl
     refine pn_ (i := 18) (N := 28) (a' := ?_) (ar 43 19 []) rfl rfl (any_of HT_.out (by kernel_rfl)) ?_ ?_
     rotate_left
     · simp only [puts_]
       rfl
     refine pn_ (i := 19) (N := 29) (a' := ?_) (ar 43 20 []) rfl rfl (any_of HT_.out (by kernel_rfl)) ?_ ?_
     rotate_left
     · simp only [puts_]
       rfl
     refine pn_ (i := 20) (N := 30) (a' := ?_) (ar 43 21 []) rfl rfl (any_of HT_.out (by kernel_rfl)) ?_ ?_
     rotate_left
     · simp only [puts_]
       rfl
     refine pn_ (i := 21) (N := 31) (a' := ?_) (ar 43 22 []) rfl rfl (any_of HT_.out (by kernel_rfl)) ?_ ?_
     rotate_left
     · simp only [puts_]
       rfl
     refine pn_ (i := 22) (N := 32) (a' := ?_) (ar 43 23 []) rfl rfl (any_of HT_.out (by kernel_rfl)) ?_ ?_
     rotate_left
     · simp only [puts_]
       rfl
     refine pn_ (i := 23) (N := 33) (a' := ?_) (ar 43 24 []) rfl rfl (any_of HT_.out (by kernel_rfl)) ?_ ?_
     rotate_left
     · simp only [puts_]
       rfl
     refine pu_ (i := 24) (N := 34) (v := ?_) (a' := ?_) (ar 43 25 []) rfl rfl (any_of HT_.out (by kernel_rfl)) ?_ ?_ ?_
     rotate_left
     · intro w'
       go_simp
       with_reducible rfl
     rotate_left
     · simp only [puts_]
       rfl
     refine pu_ (i := 25) (N := 35) (v := ?_) (a' := ?_) (ar 43 26 []) rfl rfl (any_of HT_.out (by kernel_rfl)) ?_ ?_ ?_
     rotate_left
     · intro w'
       go_simp
       with_reducible rfl
     rotate_left
     · simp only [puts_]
       rfl
     refine pn_ (i := 26) (N := 36) (a' := ?_) (ar 43 27 []) rfl rfl (any_of HT_.out (by kernel_rfl)) ?_ ?_
     rotate_left
     · simp only [puts_]
       rfl
     refine pn_ (i := 27) (N := 37) (a' := ?_) (ar 43 28 []) rfl rfl (any_of HT_.out (by kernel_rfl)) ?_ ?_
     rotate_left
     · simp only [puts_]
       rfl
     refine pn_ (i := 28) (N := 38) (a' := ?_) (ar 43 29 []) rfl rfl (any_of HT_.out (by kernel_rfl)) ?_ ?_
     rotate_left
     · simp only [puts_]
       rfl
     refine pn_ (i := 29) (N := 39) (a' := ?_) (ar 43 30 []) rfl rfl (any_of HT_.out (by kernel_rfl)) ?_ ?_
     rotate_left
     · simp only [puts_]
       rfl
     refine pn_ (i := 30) (N := 40) (a' := ?_) (ar 43 31 []) rfl rfl (any_of HT_.out (by kernel_rfl)) ?_ ?_
     rotate_left
     · simp only [puts_]
       rfl
     refine pn_ (i := 31) (N := 41) (a' := ?_) (ar 43 32 []) rfl rfl (any_of HT_.out (by kernel_rfl)) ?_ ?_
     rotate_left
     · simp only [puts_]
       rfl
     refine pn_ (i := 32) (N := 42) (a' := ?_) (ar 43 33 []) rfl rfl (any_of HT_.out (by kernel_rfl)) ?_ ?_
     rotate_left
     · simp only [puts_]
       rfl
     refine pn_ (i := 33) (N := 43) (a' := ?_) (ar 43 34 []) rfl rfl (any_of HT_.out (by kernel_rfl)) ?_ ?_
     rotate_left
     · simp only [puts_]
       rfl
     refine pn_ (i := 34) (N := 44) (a' := ?_) (ar 43 35 []) rfl rfl (any_of HT_.out (by kernel_rfl)) ?_ ?_
     rotate_left
     · simp only [puts_]
       rfl
     refine pn_ (i := 35) (N := 45) (a' := ?_) (ar 43 36 []) rfl rfl (any_of HT_.out (by kernel_rfl)) ?_ ?_
     rotate_left
     · simp only [puts_]
       rfl
     refine pn_ (i := 36) (N := 46) (a' := ?_) (ar 43 37 []) rfl rfl (any_of HT_.out (by kernel_rfl)) ?_ ?_
     rotate_left
     · simp only [puts_]
       rfl
     refine pn_ (i := 37) (N := 47) (a' := ?_) (ar 43 38 []) rfl rfl (any_of HT_.out (by kernel_rfl)) ?_ ?_
     rotate_left
     · simp only [puts_]
       rfl
     refine pn_ (i := 38) (N := 48) (a' := ?_) (ar 43 39 []) rfl rfl (any_of HT_.out (by kernel_rfl)) ?_ ?_
     rotate_left
     · simp only [puts_]
       rfl
     refine pn_ (i := 39) (N := 49) (a' := ?_) (ar 43 40 []) rfl rfl (any_of HT_.out (by kernel_rfl)) ?_ ?_
     rotate_left
     · simp only [puts_]
       rfl
     refine pn_ (i := 40) (N := 50) (a' := ?_) (ar 43 41 []) rfl rfl (any_of HT_.out (by kernel_rfl)) ?_ ?_
     rotate_left
     · simp only [puts_]
       rfl
     refine pn_ (i := 41) (N := 51) (a' := ?_) (ar 43 42 []) rfl rfl (any_of HT_.out (by kernel_rfl)) ?_ ?_
     rotate_left
     · simp only [puts_]
       rfl
     refine pu_ (i := 42) (N := 52) (v := ?_) (a' := ?_) (ar 43 43 []) rfl rfl (any_of HT_.out (by kernel_rfl)) ?_ ?_ ?_
     rotate_left
     · intro w'
       go_simp
       with_reducible rfl
     rotate_left
     · simp only [puts_]
       rfl
     refine done_ (done_of HT_.out (by kernel_rfl)) ?_
     try go_wp2
     go_ret
     exact ⟨by first | rfl | (simp [errW_none, errW_some] <;> rfl) | (simp [*, errW_none, errW_some] <;> rfl), below_up HB.out⟩
   subst c5
   rw [if_pos rfl] at H
   replace H := Option.bind_eq_some_iff.mp H
   obtain ⟨t215, A60, H⟩ := H
   have A6 := Aside0.mk A60
   clear A60
   by_cases c7 : t215 = true
   rotate_left
   · replace c7 := Bool.eq_false_iff.mpr c7
     subst c7
     rw [if_neg (show ¬ (false = true) by decide)] at H
     obtain rfl := Option.some.inj H
     try go_wp2
     have n0_ := Aside0.mk (below_drew1 HB.out)
     clear HB
     have HB := n0_
     clear n0_
     have p212 : 0 ≤ (x3_1 : Int) := of_decide_eq_true (by first | (with_reducible assumption) | assumption)
     have q212 : x3_1 < (l0.length : Int) := of_decide_eq_true (by first | (with_reducible assumption) | assumption)
     obtain ⟨ad212, e212, hx212_0, hx212_1, hx212_2, hx212_3⟩ := at_T95 HR0.out x3_1 p212 q212
     have hw212_3 := hx212_3
     have hw212_2 := hx212_2
     have hw212_1 := hx212_1
     have hw212_0 := hx212_0
     cases e212
     replace hx212_0 := (cel HB.out hx212_0 :)
     replace hx212_1 := (cel HB.out hx212_1 :)
     replace hx212_2 := (cel HB.out hx212_2 :)
     replace hx212_3 := (cel HB.out hx212_3 :)
     replace p212 := eq_true p212
     replace q212 := eq_true q212
     have p214 : 0 ≤ (x3_1 : Int) := of_decide_eq_true (by first | (with_reducible assumption) | assumption)
     have q214 : x3_1 < (l0.length : Int) := of_decide_eq_true (by first | (with_reducible assumption) | assumption)
     obtain ⟨ad214, e214, hx214_0, hx214_1, hx214_2, hx214_3⟩ := at_T95 HR0.out x3_1 p214 q214
     have hw214_3 := hx214_3
     have hw214_2 := hx214_2
     have hw214_1 := hx214_1
     have hw214_0 := hx214_0
     obtain rfl : ad212 = ad214 := (by injection e214)
     replace hx214_0 := (cel HB.out hx214_0 :)
     replace hx214_1 := (cel HB.out hx214_1 :)
     replace hx214_2 := (cel HB.out hx214_2 :)
     replace hx214_3 := (cel HB.out hx214_3 :)
     replace p214 := eq_true p214
     replace q214 := eq_true q214
     refine start_ (n := 43) (S := fun w' => w'.cell? (ad212.add ((x3_1).toNat * 4)) = some (.int .i64 ((rd_T95 l0 x3_1).f0)) ∧ w'.cell? ⟨(ad212.add ((x3_1).toNat * 4)).block, (ad212.add ((x3_1).toNat * 4)).off + 1, none⟩ = some (.int .i64 ((rd_T95 l0 x3_1).f1)) ∧ w'.cell? ⟨(ad212.add ((x3_1).toNat * 4)).block, (ad212.add ((x3_1).toNat * 4)).off + 2, none⟩ = some (.int .i64 ((rd_T95 l0 x3_1).f2)) ∧ w'.cell? ⟨(ad212.add ((x3_1).toNat * 4)).block, (ad212.add ((x3_1).toNat * 4)).off + 3, none⟩ = some (.bool ((rd_T95 l0 x3_1).f3)) ∧ w'.cell? (ad212.add ((x3_1).toNat * 4)) = some (.int .i64 ((rd_T95 l0 x3_1).f0)) ∧ w'.cell? ⟨(ad212.add ((x3_1).toNat * 4)).block, (ad212.add ((x3_1).toNat * 4)).off + 1, none⟩ = some (.int .i64 ((rd_T95 l0 x3_1).f1)) ∧ w'.cell? ⟨(ad212.add ((x3_1).toNat * 4)).block, (ad212.add ((x3_1).toNat * 4)).off + 2, none⟩ = some (.int .i64 ((rd_T95 l0 x3_1).f2)) ∧ w'.cell? ⟨(ad212.add ((x3_1).toNat * 4)).block, (ad212.add ((x3_1).toNat * 4)).off + 3, none⟩ = some (.bool ((rd_T95 l0 x3_1).f3))) (ds := []) (ar 43 0 []) (by kernel_rfl) rfl rfl ⟨((cel HB.out hw212_0 :)), ((cel HB.out hw212_1 :)), ((cel HB.out hw212_2 :)), ((cel HB.out hw212_3 :)), ((cel HB.out hw214_0 :)), ((cel HB.out hw214_1 :)), ((cel HB.out hw214_2 :)), ((cel HB.out hw214_3 :))⟩ (fun hHeld => ?_); refine with_tabW spec_AreCrew.tab4 spec_AreCrew.bits4 (fun HT_ HW_ => ?_)
     generalize wr.drew = w19 at HB hx212_0 hx212_1 hx212_2 hx212_3 hx214_0 hx214_1 hx214_2 hx214_3 hHeld ⊢
     refine pu_ (i := 0) (N := 10) (v := ?_) (a' := ?_) (ar 43 1 []) rfl rfl (any_of HT_.out (by kernel_rfl)) ?_ ?_ ?_
     rotate_left
     · intro w'
       go_simp
       with_reducible rfl
     rotate_left
     · simp only [puts_]
       rfl
     refine pu_ (i := 1) (N := 11) (v := ?_) (a' := ?_) (ar 43 2 []) rfl rfl (any_of HT_.out (by kernel_rfl)) ?_ ?_ ?_
     rotate_left
     · intro w'
       go_simp
       with_reducible rfl
     rotate_left
     · simp only [puts_]
       rfl
     refine pu_ (i := 2) (N := 12) (v := ?_) (a' := ?_) (ar 43 3 []) rfl rfl (any_of HT_.out (by kernel_rfl)) ?_ ?_ ?_
     rotate_left
     · intro w'
       go_simp
       with_reducible rfl
     rotate_left
     · simp only [puts_]
       rfl
     refine pu_ (i := 3) (N := 13) (v := ?_) (a' := ?_) (ar 43 4 []) rfl rfl (any_of HT_.out (by kernel_rfl)) ?_ ?_ ?_
     rotate_left
     · intro w'
       go_simp
       with_reducible rfl
     rotate_left
     · simp only [puts_]
       rfl
     refine tk_ (i := 4) (N := 14) (v := ?_) (a' := ?_) (ar 43 5 []) rfl rfl (take_ofW HT_.out HW_.out (by kernel_rfl)) ?_ hHeld ?_ ?_
     rotate_left
     · rintro w' ⟨s0, s1, s2, s3, s4, s5, s6, s7⟩
       go_simp
       with_reducible rfl
     rotate_left
     · simp only [puts_]
       rfl
     refine one_ (i := 5) (N := some 15) (ar 43 6 []) rfl rfl (one_of HT_.out (by kernel_rfl)) (by decide) (fun K hK => ?_)
     refine goes_ Try.func67 (by kernel_rfl) rfl #[.int .i64 ((rd_T95 l0 x3_1).f0), .int .i64 1, .int .i64 99] (by rfl) rfl rfl (by (try simp only [am_]); first | done | rfl) ?_
     with_reducible refine (spec_l1In.calls ((rd_T95 l0 x3_1).f0) 1 99 true _ A4.out).mono ?_
     rintro e w' ⟨rfl, ⟨nd, rfl⟩⟩
     refine ⟨_, rfl, ?_⟩
     refine hK.out _ _ ⟨((cel HB.out hw212_0 :)), ((cel HB.out hw212_1 :)), ((cel HB.out hw212_2 :)), ((cel HB.out hw212_3 :)), ((cel HB.out hw214_0 :)), ((cel HB.out hw214_1 :)), ((cel HB.out hw214_2 :)), ((cel HB.out hw214_3 :))⟩ (fun hHeld => ?_)
     clear hK K
     refine norm_ (a' := ?_) ?_ ?_
     rotate_left
     · show Act.put _ (some 15) _ = _
       simp only [puts_]
       rfl
     refine pu_ (i := 6) (N := 16) (v := ?_) (a' := ?_) (ar 43 7 []) rfl rfl (any_of HT_.out (by kernel_rfl)) ?_ ?_ ?_
     rotate_left
     · intro w'
       go_simp
       with_reducible rfl
     rotate_left
     · simp only [puts_]
       rfl
     refine pu_ (i := 7) (N := 17) (v := ?_) (a' := ?_) (ar 43 8 []) rfl rfl (any_of HT_.out (by kernel_rfl)) ?_ ?_ ?_
     rotate_left
     · intro w'
       go_simp
       with_reducible rfl
     rotate_left
     · simp only [puts_]
       rfl
     refine pu_ (i := 8) (N := 18) (v := ?_) (a' := ?_) (ar 43 9 []) rfl rfl (any_of HT_.out (by kernel_rfl)) ?_ ?_ ?_
     rotate_left
     · intro w'
       go_simp
       with_reducible rfl
     rotate_left
     · simp only [puts_]
       rfl
     refine pu_ (i := 9) (N := 19) (v := ?_) (a' := ?_) (ar 43 10 []) rfl rfl (any_of HT_.out (by kernel_rfl)) ?_ ?_ ?_
     rotate_left
     · intro w'
       go_simp
       with_reducible rfl
     rotate_left
     · simp only [puts_]
       rfl
     refine pu_ (i := 10) (N := 20) (v := ?_) (a' := ?_) (ar 43 11 []) rfl rfl (any_of HT_.out (by kernel_rfl)) ?_ ?_ ?_
     rotate_left
     · intro w'
       go_simp
       with_reducible rfl
     rotate_left
     · simp only [puts_]
       rfl
     refine pu_ (i := 11) (N := 21) (v := ?_) (a' := ?_) (ar 43 12 []) rfl rfl (any_of HT_.out (by kernel_rfl)) ?_ ?_ ?_
     rotate_left
     · intro w'
       go_simp
       with_reducible rfl
     rotate_left
     · simp only [puts_]
       rfl
     refine tk_ (i := 12) (N := 22) (v := ?_) (a' := ?_) (ar 43 13 []) rfl rfl (take_ofW HT_.out HW_.out (by kernel_rfl)) ?_ hHeld ?_ ?_
     rotate_left
     · rintro w' ⟨s0, s1, s2, s3, s4, s5, s6, s7⟩
       go_simp
       with_reducible rfl
     rotate_left
     · simp only [puts_]
       rfl
     refine one_ (i := 13) (N := some 23) (ar 43 14 []) rfl rfl (one_of HT_.out (by kernel_rfl)) (by decide) (fun K hK => ?_)
     refine goes_ Try.func67 (by kernel_rfl) rfl #[.int .i64 ((rd_T95 l0 x3_1).f1), .int .i64 0, .int .i64 100] (by rfl) rfl rfl (by (try simp only [am_]); first | done | rfl) ?_
     with_reducible refine (spec_l1In.calls ((rd_T95 l0 x3_1).f1) 0 100 false _ A6.out).mono ?_
     rintro e w' ⟨rfl, ⟨nd, rfl⟩⟩
     refine ⟨_, rfl, ?_⟩
     refine hK.out _ _ ⟨((cel HB.out hw212_0 :)), ((cel HB.out hw212_1 :)), ((cel HB.out hw212_2 :)), ((cel HB.out hw212_3 :)), ((cel HB.out hw214_0 :)), ((cel HB.out hw214_1 :)), ((cel HB.out hw214_2 :)), ((cel HB.out hw214_3 :))⟩ (fun hHeld => ?_)
     clear hK K
     refine norm_ (a' := ?_) ?_ ?_
     rotate_left
     · show Act.put _ (some 23) _ = _
       simp only [puts_]
       rfl
     refine pu_ (i := 14) (N := 24) (v := ?_) (a' := ?_) (ar 43 15 []) rfl rfl (any_of HT_.out (by kernel_rfl)) ?_ ?_ ?_
     rotate_left
     · intro w'
       go_simp
       with_reducible rfl
     rotate_left
     · simp only [puts_]
       rfl
     refine pu_ (i := 15) (N := 25) (v := ?_) (a' := ?_) (ar 43 16 []) rfl rfl (any_of HT_.out (by kernel_rfl)) ?_ ?_ ?_
     rotate_left
     · intro w'
       go_simp
       with_reducible rfl
     rotate_left
     · simp only [puts_]
       rfl
     refine pu_ (i := 16) (N := 26) (v := ?_) (a' := ?_) (ar 43 17 []) rfl rfl (any_of HT_.out (by kernel_rfl)) ?_ ?_ ?_
     rotate_left
     · intro w'
       go_simp
       with_reducible rfl
     rotate_left
     · simp only [puts_]
       rfl
     refine pn_ (i := 17) (N := 27) (a' := ?_) (ar 43 18 []) rfl rfl (any_of HT_.out (by kernel_rfl)) ?_ ?_
     rotate_left
     · simp only [puts_]
       rfl
     refine pn_ (i := 18) (N := 28) (a' := ?_) (ar 43 19 []) rfl rfl (any_of HT_.out (by kernel_rfl)) ?_ ?_
     rotate_left
     · simp only [puts_]
       rfl
     refine pn_ (i := 19) (N := 29) (a' := ?_) (ar 43 20 []) rfl rfl (any_of HT_.out (by kernel_rfl)) ?_ ?_
     rotate_left
     · simp only [puts_]
       rfl
     refine pn_ (i := 20) (N := 30) (a' := ?_) (ar 43 21 []) rfl rfl (any_of HT_.out (by kernel_rfl)) ?_ ?_
     rotate_left
     · simp only [puts_]
       rfl
     refine pn_ (i := 21) (N := 31) (a' := ?_) (ar 43 22 []) rfl rfl (any_of HT_.out (by kernel_rfl)) ?_ ?_
     rotate_left
     · simp only [puts_]
       rfl
     refine pn_ (i := 22) (N := 32) (a' := ?_) (ar 43 23 []) rfl rfl (any_of HT_.out (by kernel_rfl)) ?_ ?_
     rotate_left
     · simp only [puts_]
       rfl
     refine pn_ (i := 23) (N := 33) (a' := ?_) (ar 43 24 []) rfl rfl (any_of HT_.out (by kernel_rfl)) ?_ ?_
     rotate_left
     · simp only [puts_]
       rfl
     refine pu_ (i := 24) (N := 34) (v := ?_) (a' := ?_) (ar 43 25 []) rfl rfl (any_of HT_.out (by kernel_rfl)) ?_ ?_ ?_
     rotate_left
     · intro w'
       go_simp
       with_reducible rfl
     rotate_left
     · simp only [puts_]
       rfl
     refine pu_ (i := 25) (N := 35) (v := ?_) (a' := ?_) (ar 43 26 []) rfl rfl (any_of HT_.out (by kernel_rfl)) ?_ ?_ ?_
     rotate_left
     · intro w'
       go_simp
       with_reducible rfl
     rotate_left
     · simp only [puts_]
       rfl
     refine pn_ (i := 26) (N := 36) (a' := ?_) (ar 43 27 []) rfl rfl (any_of HT_.out (by kernel_rfl)) ?_ ?_
     rotate_left
     · simp only [puts_]
       rfl
     refine pn_ (i := 27) (N := 37) (a' := ?_) (ar 43 28 []) rfl rfl (any_of HT_.out (by kernel_rfl)) ?_ ?_
     rotate_left
     · simp only [puts_]
       rfl
     refine pn_ (i := 28) (N := 38) (a' := ?_) (ar 43 29 []) rfl rfl (any_of HT_.out (by kernel_rfl)) ?_ ?_
     rotate_left
     · simp only [puts_]
       rfl
     refine pn_ (i := 29) (N := 39) (a' := ?_) (ar 43 30 []) rfl rfl (any_of HT_.out (by kernel_rfl)) ?_ ?_
     rotate_left
     · simp only [puts_]
       rfl
     refine pn_ (i := 30) (N := 40) (a' := ?_) (ar 43 31 []) rfl rfl (any_of HT_.out (by kernel_rfl)) ?_ ?_
     rotate_left
     · simp only [puts_]
       rfl
     refine pn_ (i := 31) (N := 41) (a' := ?_) (ar 43 32 []) rfl rfl (any_of HT_.out (by kernel_rfl)) ?_ ?_
     rotate_left
     · simp only [puts_]
       rfl
     refine pn_ (i := 32) (N := 42) (a' := ?_) (ar 43 33 []) rfl rfl (any_of HT_.out (by kernel_rfl)) ?_ ?_
     rotate_left
     · simp only [puts_]
       rfl
     refine pn_ (i := 33) (N := 43) (a' := ?_) (ar 43 34 []) rfl rfl (any_of HT_.out (by kernel_rfl)) ?_ ?_
     rotate_left
     · simp only [puts_]
       rfl
     refine pn_ (i := 34) (N := 44) (a' := ?_) (ar 43 35 []) rfl rfl (any_of HT_.out (by kernel_rfl)) ?_ ?_
     rotate_left
     · simp only [puts_]
       rfl
     refine pn_ (i := 35) (N := 45) (a' := ?_) (ar 43 36 []) rfl rfl (any_of HT_.out (by kernel_rfl)) ?_ ?_
     rotate_left
     · simp only [puts_]
       rfl
     refine pn_ (i := 36) (N := 46) (a' := ?_) (ar 43 37 []) rfl rfl (any_of HT_.out (by kernel_rfl)) ?_ ?_
     rotate_left
     · simp only [puts_]
       rfl
     refine pn_ (i := 37) (N := 47) (a' := ?_) (ar 43 38 []) rfl rfl (any_of HT_.out (by kernel_rfl)) ?_ ?_
     rotate_left
     · simp only [puts_]
       rfl
     refine pn_ (i := 38) (N := 48) (a' := ?_) (ar 43 39 []) rfl rfl (any_of HT_.out (by kernel_rfl)) ?_ ?_
     rotate_left
     · simp only [puts_]
       rfl
     refine pn_ (i := 39) (N := 49) (a' := ?_) (ar 43 40 []) rfl rfl (any_of HT_.out (by kernel_rfl)) ?_ ?_
     rotate_left
     · simp only [puts_]
       rfl
     refine pn_ (i := 40) (N := 50) (a' := ?_) (ar 43 41 []) rfl rfl (any_of HT_.out (by kernel_rfl)) ?_ ?_
     rotate_left
     · simp only [puts_]
       rfl
     refine pn_ (i := 41) (N := 51) (a' := ?_) (ar 43 42 []) rfl rfl (any_of HT_.out (by kernel_rfl)) ?_ ?_
     rotate_left
     · simp only [puts_]
       rfl
     refine pu_ (i := 42) (N := 52) (v := ?_) (a' := ?_) (ar 43 43 []) rfl rfl (any_of HT_.out (by kernel_rfl)) ?_ ?_ ?_
     rotate_left
     · intro w'
       go_simp
       with_reducible rfl
     rotate_left
     · simp only [puts_]
       rfl
     refine done_ (done_of HT_.out (by kernel_rfl)) ?_
     try go_wp2
     go_ret
     exact ⟨by first | rfl | (simp [errW_none, errW_some] <;> rfl) | (simp [*, errW_none, errW_some] <;> rfl), below_up HB.out⟩
   subst c7
   rw [if_pos rfl] at H
   replace H := Option.bind_eq_some_iff.mp H
   obtain ⟨t217, A80, H⟩ := H
   have A8 := Aside0.mk A80
   clear A80
   by_cases c9 : t217 = true
   rotate_left
   · replace c9 := Bool.eq_false_iff.mpr c9
     subst c9
     rw [if_neg (show ¬ (false = true) by decide)] at H
     obtain rfl := Option.some.inj H
     try go_wp2
     have n0_ := Aside0.mk (below_drew1 HB.out)
     clear HB
     have HB := n0_
     clear n0_
     have p212 : 0 ≤ (x3_1 : Int) := of_decide_eq_true (by first | (with_reducible assumption) | assumption)
     have q212 : x3_1 < (l0.length : Int) := of_decide_eq_true (by first | (with_reducible assumption) | assumption)
     obtain ⟨ad212, e212, hx212_0, hx212_1, hx212_2, hx212_3⟩ := at_T95 HR0.out x3_1 p212 q212
     have hw212_3 := hx212_3
     have hw212_2 := hx212_2
     have hw212_1 := hx212_1
     have hw212_0 := hx212_0
     cases e212
     replace hx212_0 := (cel HB.out hx212_0 :)
     replace hx212_1 := (cel HB.out hx212_1 :)
     replace hx212_2 := (cel HB.out hx212_2 :)
     replace hx212_3 := (cel HB.out hx212_3 :)
     replace p212 := eq_true p212
     replace q212 := eq_true q212
     have p214 : 0 ≤ (x3_1 : Int) := of_decide_eq_true (by first | (with_reducible assumption) | assumption)
     have q214 : x3_1 < (l0.length : Int) := of_decide_eq_true (by first | (with_reducible assumption) | assumption)
     obtain ⟨ad214, e214, hx214_0, hx214_1, hx214_2, hx214_3⟩ := at_T95 HR0.out x3_1 p214 q214
     have hw214_3 := hx214_3
     have hw214_2 := hx214_2
     have hw214_1 := hx214_1
     have hw214_0 := hx214_0
     obtain rfl : ad212 = ad214 := (by injection e214)
     replace hx214_0 := (cel HB.out hx214_0 :)
     replace hx214_1 := (cel HB.out hx214_1 :)
     replace hx214_2 := (cel HB.out hx214_2 :)
     replace hx214_3 := (cel HB.out hx214_3 :)
     replace p214 := eq_true p214
     replace q214 := eq_true q214
     have p216 : 0 ≤ (x3_1 : Int) := of_decide_eq_true (by first | (with_reducible assumption) | assumption)
     have q216 : x3_1 < (l0.length : Int) := of_decide_eq_true (by first | (with_reducible assumption) | assumption)
     obtain ⟨ad216, e216, hx216_0, hx216_1, hx216_2, hx216_3⟩ := at_T95 HR0.out x3_1 p216 q216
     have hw216_3 := hx216_3
     have hw216_2 := hx216_2
     have hw216_1 := hx216_1
     have hw216_0 := hx216_0
     obtain rfl : ad212 = ad216 := (by injection e216)
     replace hx216_0 := (cel HB.out hx216_0 :)
     replace hx216_1 := (cel HB.out hx216_1 :)
     replace hx216_2 := (cel HB.out hx216_2 :)
     replace hx216_3 := (cel HB.out hx216_3 :)
     replace p216 := eq_true p216
     replace q216 := eq_true q216
     refine start_ (n := 43) (S := fun w' => w'.cell? (ad212.add ((x3_1).toNat * 4)) = some (.int .i64 ((rd_T95 l0 x3_1).f0)) ∧ w'.cell? ⟨(ad212.add ((x3_1).toNat * 4)).block, (ad212.add ((x3_1).toNat * 4)).off + 1, none⟩ = some (.int .i64 ((rd_T95 l0 x3_1).f1)) ∧ w'.cell? ⟨(ad212.add ((x3_1).toNat * 4)).block, (ad212.add ((x3_1).toNat * 4)).off + 2, none⟩ = some (.int .i64 ((rd_T95 l0 x3_1).f2)) ∧ w'.cell? ⟨(ad212.add ((x3_1).toNat * 4)).block, (ad212.add ((x3_1).toNat * 4)).off + 3, none⟩ = some (.bool ((rd_T95 l0 x3_1).f3)) ∧ w'.cell? (ad212.add ((x3_1).toNat * 4)) = some (.int .i64 ((rd_T95 l0 x3_1).f0)) ∧ w'.cell? ⟨(ad212.add ((x3_1).toNat * 4)).block, (ad212.add ((x3_1).toNat * 4)).off + 1, none⟩ = some (.int .i64 ((rd_T95 l0 x3_1).f1)) ∧ w'.cell? ⟨(ad212.add ((x3_1).toNat * 4)).block, (ad212.add ((x3_1).toNat * 4)).off + 2, none⟩ = some (.int .i64 ((rd_T95 l0 x3_1).f2)) ∧ w'.cell? ⟨(ad212.add ((x3_1).toNat * 4)).block, (ad212.add ((x3_1).toNat * 4)).off + 3, none⟩ = some (.bool ((rd_T95 l0 x3_1).f3)) ∧ w'.cell? (ad212.add ((x3_1).toNat * 4)) = some (.int .i64 ((rd_T95 l0 x3_1).f0)) ∧ w'.cell? ⟨(ad212.add ((x3_1).toNat * 4)).block, (ad212.add ((x3_1).toNat * 4)).off + 1, none⟩ = some (.int .i64 ((rd_T95 l0 x3_1).f1)) ∧ w'.cell? ⟨(ad212.add ((x3_1).toNat * 4)).block, (ad212.add ((x3_1).toNat * 4)).off + 2, none⟩ = some (.int .i64 ((rd_T95 l0 x3_1).f2)) ∧ w'.cell? ⟨(ad212.add ((x3_1).toNat * 4)).block, (ad212.add ((x3_1).toNat * 4)).off + 3, none⟩ = some (.bool ((rd_T95 l0 x3_1).f3))) (ds := []) (ar 43 0 []) (by kernel_rfl) rfl rfl ⟨((cel HB.out hw212_0 :)), ((cel HB.out hw212_1 :)), ((cel HB.out hw212_2 :)), ((cel HB.out hw212_3 :)), ((cel HB.out hw214_0 :)), ((cel HB.out hw214_1 :)), ((cel HB.out hw214_2 :)), ((cel HB.out hw214_3 :)), ((cel HB.out hw216_0 :)), ((cel HB.out hw216_1 :)), ((cel HB.out hw216_2 :)), ((cel HB.out hw216_3 :))⟩ (fun hHeld => ?_); refine with_tabW spec_AreCrew.tab4 spec_AreCrew.bits4 (fun HT_ HW_ => ?_)
     generalize wr.drew = w18 at HB hx212_0 hx212_1 hx212_2 hx212_3 hx214_0 hx214_1 hx214_2 hx214_3 hx216_0 hx216_1 hx216_2 hx216_3 hHeld ⊢
     refine pu_ (i := 0) (N := 10) (v := ?_) (a' := ?_) (ar 43 1 []) rfl rfl (any_of HT_.out (by kernel_rfl)) ?_ ?_ ?_
     rotate_left
     · intro w'
       go_simp
       with_reducible rfl
     rotate_left
     · simp only [puts_]
       rfl
     refine pu_ (i := 1) (N := 11) (v := ?_) (a' := ?_) (ar 43 2 []) rfl rfl (any_of HT_.out (by kernel_rfl)) ?_ ?_ ?_
     rotate_left
     · intro w'
       go_simp
       with_reducible rfl
     rotate_left
     · simp only [puts_]
       rfl
     refine pu_ (i := 2) (N := 12) (v := ?_) (a' := ?_) (ar 43 3 []) rfl rfl (any_of HT_.out (by kernel_rfl)) ?_ ?_ ?_
     rotate_left
     · intro w'
       go_simp
       with_reducible rfl
     rotate_left
     · simp only [puts_]
       rfl
     refine pu_ (i := 3) (N := 13) (v := ?_) (a' := ?_) (ar 43 4 []) rfl rfl (any_of HT_.out (by kernel_rfl)) ?_ ?_ ?_
     rotate_left
     · intro w'
       go_simp
       with_reducible rfl
     rotate_left
     · simp only [puts_]
       rfl
     refine tk_ (i := 4) (N := 14) (v := ?_) (a' := ?_) (ar 43 5 []) rfl rfl (take_ofW HT_.out HW_.out (by kernel_rfl)) ?_ hHeld ?_ ?_
     rotate_left
     · rintro w' ⟨s0, s1, s2, s3, s4, s5, s6, s7, s8, s9, s10, s11⟩
       go_simp
       with_reducible rfl
     rotate_left
     · simp only [puts_]
       rfl
     refine one_ (i := 5) (N := some 15) (ar 43 6 []) rfl rfl (one_of HT_.out (by kernel_rfl)) (by decide) (fun K hK => ?_)
     refine goes_ Try.func67 (by kernel_rfl) rfl #[.int .i64 ((rd_T95 l0 x3_1).f0), .int .i64 1, .int .i64 99] (by rfl) rfl rfl (by (try simp only [am_]); first | done | rfl) ?_
     with_reducible refine (spec_l1In.calls ((rd_T95 l0 x3_1).f0) 1 99 true _ A4.out).mono ?_
     rintro e w' ⟨rfl, ⟨nd, rfl⟩⟩
     refine ⟨_, rfl, ?_⟩
     refine hK.out _ _ ⟨((cel HB.out hw212_0 :)), ((cel HB.out hw212_1 :)), ((cel HB.out hw212_2 :)), ((cel HB.out hw212_3 :)), ((cel HB.out hw214_0 :)), ((cel HB.out hw214_1 :)), ((cel HB.out hw214_2 :)), ((cel HB.out hw214_3 :)), ((cel HB.out hw216_0 :)), ((cel HB.out hw216_1 :)), ((cel HB.out hw216_2 :)), ((cel HB.out hw216_3 :))⟩ (fun hHeld => ?_)
     clear hK K
     refine norm_ (a' := ?_) ?_ ?_
     rotate_left
     · show Act.put _ (some 15) _ = _
       simp only [puts_]
       rfl
     refine pu_ (i := 6) (N := 16) (v := ?_) (a' := ?_) (ar 43 7 []) rfl rfl (any_of HT_.out (by kernel_rfl)) ?_ ?_ ?_
     rotate_left
     · intro w'
       go_simp
       with_reducible rfl
     rotate_left
     · simp only [puts_]
       rfl
     refine pu_ (i := 7) (N := 17) (v := ?_) (a' := ?_) (ar 43 8 []) rfl rfl (any_of HT_.out (by kernel_rfl)) ?_ ?_ ?_
     rotate_left
     · intro w'
       go_simp
       with_reducible rfl
     rotate_left
     · simp only [puts_]
       rfl
     refine pu_ (i := 8) (N := 18) (v := ?_) (a' := ?_) (ar 43 9 []) rfl rfl (any_of HT_.out (by kernel_rfl)) ?_ ?_ ?_
     rotate_left
     · intro w'
       go_simp
       with_reducible rfl
     rotate_left
     · simp only [puts_]
       rfl
     refine pu_ (i := 9) (N := 19) (v := ?_) (a' := ?_) (ar 43 10 []) rfl rfl (any_of HT_.out (by kernel_rfl)) ?_ ?_ ?_
     rotate_left
     · intro w'
       go_simp
       with_reducible rfl
     rotate_left
     · simp only [puts_]
       rfl
     refine pu_ (i := 10) (N := 20) (v := ?_) (a' := ?_) (ar 43 11 []) rfl rfl (any_of HT_.out (by kernel_rfl)) ?_ ?_ ?_
     rotate_left
     · intro w'
       go_simp
       with_reducible rfl
     rotate_left
     · simp only [puts_]
       rfl
     refine pu_ (i := 11) (N := 21) (v := ?_) (a' := ?_) (ar 43 12 []) rfl rfl (any_of HT_.out (by kernel_rfl)) ?_ ?_ ?_
     rotate_left
     · intro w'
       go_simp
       with_reducible rfl
     rotate_left
     · simp only [puts_]
       rfl
     refine tk_ (i := 12) (N := 22) (v := ?_) (a' := ?_) (ar 43 13 []) rfl rfl (take_ofW HT_.out HW_.out (by kernel_rfl)) ?_ hHeld ?_ ?_
     rotate_left
     · rintro w' ⟨s0, s1, s2, s3, s4, s5, s6, s7, s8, s9, s10, s11⟩
       go_simp
       with_reducible rfl
     rotate_left
     · simp only [puts_]
       rfl
     refine one_ (i := 13) (N := some 23) (ar 43 14 []) rfl rfl (one_of HT_.out (by kernel_rfl)) (by decide) (fun K hK => ?_)
     refine goes_ Try.func67 (by kernel_rfl) rfl #[.int .i64 ((rd_T95 l0 x3_1).f1), .int .i64 0, .int .i64 100] (by rfl) rfl rfl (by (try simp only [am_]); first | done | rfl) ?_
     with_reducible refine (spec_l1In.calls ((rd_T95 l0 x3_1).f1) 0 100 true _ A6.out).mono ?_
     rintro e w' ⟨rfl, ⟨nd, rfl⟩⟩
     refine ⟨_, rfl, ?_⟩
     refine hK.out _ _ ⟨((cel HB.out hw212_0 :)), ((cel HB.out hw212_1 :)), ((cel HB.out hw212_2 :)), ((cel HB.out hw212_3 :)), ((cel HB.out hw214_0 :)), ((cel HB.out hw214_1 :)), ((cel HB.out hw214_2 :)), ((cel HB.out hw214_3 :)), ((cel HB.out hw216_0 :)), ((cel HB.out hw216_1 :)), ((cel HB.out hw216_2 :)), ((cel HB.out hw216_3 :))⟩ (fun hHeld => ?_)
     clear hK K
     refine norm_ (a' := ?_) ?_ ?_
     rotate_left
     · show Act.put _ (some 23) _ = _
       simp only [puts_]
       rfl
     refine pu_ (i := 14) (N := 24) (v := ?_) (a' := ?_) (ar 43 15 []) rfl rfl (any_of HT_.out (by kernel_rfl)) ?_ ?_ ?_
     rotate_left
     · intro w'
       go_simp
       with_reducible rfl
     rotate_left
     · simp only [puts_]
       rfl
     refine pu_ (i := 15) (N := 25) (v := ?_) (a' := ?_) (ar 43 16 []) rfl rfl (any_of HT_.out (by kernel_rfl)) ?_ ?_ ?_
     rotate_left
     · intro w'
       go_simp
       with_reducible rfl
     rotate_left
     · simp only [puts_]
       rfl
     refine pu_ (i := 16) (N := 26) (v := ?_) (a' := ?_) (ar 43 17 []) rfl rfl (any_of HT_.out (by kernel_rfl)) ?_ ?_ ?_
     rotate_left
     · intro w'
       go_simp
       with_reducible rfl
     rotate_left
     · simp only [puts_]
       rfl
     refine pu_ (i := 17) (N := 27) (v := ?_) (a' := ?_) (ar 43 18 []) rfl rfl (any_of HT_.out (by kernel_rfl)) ?_ ?_ ?_
     rotate_left
     · intro w'
       go_simp
       with_reducible rfl
     rotate_left
     · simp only [puts_]
       rfl
     refine pu_ (i := 18) (N := 28) (v := ?_) (a' := ?_) (ar 43 19 []) rfl rfl (any_of HT_.out (by kernel_rfl)) ?_ ?_ ?_
     rotate_left
     · intro w'
       go_simp
       with_reducible rfl
     rotate_left
     · simp only [puts_]
       rfl
     refine pu_ (i := 19) (N := 29) (v := ?_) (a' := ?_) (ar 43 20 []) rfl rfl (any_of HT_.out (by kernel_rfl)) ?_ ?_ ?_
     rotate_left
     · intro w'
       go_simp
       with_reducible rfl
     rotate_left
     · simp only [puts_]
       rfl
     refine pu_ (i := 20) (N := 30) (v := ?_) (a' := ?_) (ar 43 21 []) rfl rfl (any_of HT_.out (by kernel_rfl)) ?_ ?_ ?_
     rotate_left
     · intro w'
       go_simp
       with_reducible rfl
     rotate_left
     · simp only [puts_]
       rfl
     refine tk_ (i := 21) (N := 31) (v := ?_) (a' := ?_) (ar 43 22 []) rfl rfl (take_ofW HT_.out HW_.out (by kernel_rfl)) ?_ hHeld ?_ ?_
     rotate_left
     · rintro w' ⟨s0, s1, s2, s3, s4, s5, s6, s7, s8, s9, s10, s11⟩
       go_simp
       with_reducible rfl
     rotate_left
     · simp only [puts_]
       rfl
     refine one_ (i := 22) (N := some 32) (ar 43 23 []) rfl rfl (one_of HT_.out (by kernel_rfl)) (by decide) (fun K hK => ?_)
     refine goes_ Try.func67 (by kernel_rfl) rfl #[.int .i64 ((rd_T95 l0 x3_1).f2), .int .i64 1, .int .i64 10] (by rfl) rfl rfl (by (try simp only [am_]); first | done | rfl) ?_
     with_reducible refine (spec_l1In.calls ((rd_T95 l0 x3_1).f2) 1 10 false _ A8.out).mono ?_
     rintro e w' ⟨rfl, ⟨nd, rfl⟩⟩
     refine ⟨_, rfl, ?_⟩
     refine hK.out _ _ ⟨((cel HB.out hw212_0 :)), ((cel HB.out hw212_1 :)), ((cel HB.out hw212_2 :)), ((cel HB.out hw212_3 :)), ((cel HB.out hw214_0 :)), ((cel HB.out hw214_1 :)), ((cel HB.out hw214_2 :)), ((cel HB.out hw214_3 :)), ((cel HB.out hw216_0 :)), ((cel HB.out hw216_1 :)), ((cel HB.out hw216_2 :)), ((cel HB.out hw216_3 :))⟩ (fun hHeld => ?_)
     clear hK K
     refine norm_ (a' := ?_) ?_ ?_
     rotate_left
     · show Act.put _ (some 32) _ = _
       simp only [puts_]
       rfl
     refine pu_ (i := 23) (N := 33) (v := ?_) (a' := ?_) (ar 43 24 []) rfl rfl (any_of HT_.out (by kernel_rfl)) ?_ ?_ ?_
     rotate_left
     · intro w'
       go_simp
       with_reducible rfl
     rotate_left
     · simp only [puts_]
       rfl
     refine pu_ (i := 24) (N := 34) (v := ?_) (a' := ?_) (ar 43 25 []) rfl rfl (any_of HT_.out (by kernel_rfl)) ?_ ?_ ?_
     rotate_left
     · intro w'
       go_simp
       with_reducible rfl
     rotate_left
     · simp only [puts_]
       rfl
     refine pu_ (i := 25) (N := 35) (v := ?_) (a' := ?_) (ar 43 26 []) rfl rfl (any_of HT_.out (by kernel_rfl)) ?_ ?_ ?_
     rotate_left
     · intro w'
       go_simp
       with_reducible rfl
     rotate_left
     · simp only [puts_]
       rfl
     refine pn_ (i := 26) (N := 36) (a' := ?_) (ar 43 27 []) rfl rfl (any_of HT_.out (by kernel_rfl)) ?_ ?_
     rotate_left
     · simp only [puts_]
       rfl
     refine pn_ (i := 27) (N := 37) (a' := ?_) (ar 43 28 []) rfl rfl (any_of HT_.out (by kernel_rfl)) ?_ ?_
     rotate_left
     · simp only [puts_]
       rfl
     refine pn_ (i := 28) (N := 38) (a' := ?_) (ar 43 29 []) rfl rfl (any_of HT_.out (by kernel_rfl)) ?_ ?_
     rotate_left
     · simp only [puts_]
       rfl
     refine pn_ (i := 29) (N := 39) (a' := ?_) (ar 43 30 []) rfl rfl (any_of HT_.out (by kernel_rfl)) ?_ ?_
     rotate_left
     · simp only [puts_]
       rfl
     refine pn_ (i := 30) (N := 40) (a' := ?_) (ar 43 31 []) rfl rfl (any_of HT_.out (by kernel_rfl)) ?_ ?_
     rotate_left
     · simp only [puts_]
       rfl
     refine pn_ (i := 31) (N := 41) (a' := ?_) (ar 43 32 []) rfl rfl (any_of HT_.out (by kernel_rfl)) ?_ ?_
     rotate_left
     · simp only [puts_]
       rfl
     refine pn_ (i := 32) (N := 42) (a' := ?_) (ar 43 33 []) rfl rfl (any_of HT_.out (by kernel_rfl)) ?_ ?_
     rotate_left
     · simp only [puts_]
       rfl
     refine pn_ (i := 33) (N := 43) (a' := ?_) (ar 43 34 []) rfl rfl (any_of HT_.out (by kernel_rfl)) ?_ ?_
     rotate_left
     · simp only [puts_]
       rfl
     refine pn_ (i := 34) (N := 44) (a' := ?_) (ar 43 35 []) rfl rfl (any_of HT_.out (by kernel_rfl)) ?_ ?_
     rotate_left
     · simp only [puts_]
       rfl
     refine pn_ (i := 35) (N := 45) (a' := ?_) (ar 43 36 []) rfl rfl (any_of HT_.out (by kernel_rfl)) ?_ ?_
     rotate_left
     · simp only [puts_]
       rfl
     refine pn_ (i := 36) (N := 46) (a' := ?_) (ar 43 37 []) rfl rfl (any_of HT_.out (by kernel_rfl)) ?_ ?_
     rotate_left
     · simp only [puts_]
       rfl
     refine pn_ (i := 37) (N := 47) (a' := ?_) (ar 43 38 []) rfl rfl (any_of HT_.out (by kernel_rfl)) ?_ ?_
     rotate_left
     · simp only [puts_]
       rfl
     refine pn_ (i := 38) (N := 48) (a' := ?_) (ar 43 39 []) rfl rfl (any_of HT_.out (by kernel_rfl)) ?_ ?_
     rotate_left
     · simp only [puts_]
       rfl
     refine pn_ (i := 39) (N := 49) (a' := ?_) (ar 43 40 []) rfl rfl (any_of HT_.out (by kernel_rfl)) ?_ ?_
     rotate_left
     · simp only [puts_]
       rfl
     refine pn_ (i := 40) (N := 50) (a' := ?_) (ar 43 41 []) rfl rfl (any_of HT_.out (by kernel_rfl)) ?_ ?_
     rotate_left
     · simp only [puts_]
       rfl
     refine pn_ (i := 41) (N := 51) (a' := ?_) (ar 43 42 []) rfl rfl (any_of HT_.out (by kernel_rfl)) ?_ ?_
     rotate_left
     · simp only [puts_]
       rfl
     refine pu_ (i := 42) (N := 52) (v := ?_) (a' := ?_) (ar 43 43 []) rfl rfl (any_of HT_.out (by kernel_rfl)) ?_ ?_ ?_
     rotate_left
     · intro w'
       go_simp
       with_reducible rfl
     rotate_left
     · simp only [puts_]
       rfl
     refine done_ (done_of HT_.out (by kernel_rfl)) ?_
     try go_wp2
     go_ret
     exact ⟨by first | rfl | (simp [errW_none, errW_some] <;> rfl) | (simp [*, errW_none, errW_some] <;> rfl), below_up HB.out⟩
   subst c9
   rw [if_pos rfl] at H
   by_cases c10 : x3_1 > 0
   rotate_left
   · rw [if_neg c10] at H
     have c10b0 : decide (0 < x3_1) = false := decide_eq_false c10
     clear c10
     have H' := Aside0.mk H
     clear H
     try go_wp2
     have n0_ := Aside0.mk (below_drew1 HB.out)
     clear HB
     have HB := n0_
     clear n0_
     have p212 : 0 ≤ (x3_1 : Int) := of_decide_eq_true (by first | (with_reducible assumption) | assumption)
     have q212 : x3_1 < (l0.length : Int) := of_decide_eq_true (by first | (with_reducible assumption) | assumption)
     obtain ⟨ad212, e212, hx212_0, hx212_1, hx212_2, hx212_3⟩ := at_T95 HR0.out x3_1 p212 q212
     have hw212_3 := hx212_3
     have hw212_2 := hx212_2
     have hw212_1 := hx212_1
     have hw212_0 := hx212_0
     cases e212
     replace hx212_0 := (cel HB.out hx212_0 :)
     replace hx212_1 := (cel HB.out hx212_1 :)
     replace hx212_2 := (cel HB.out hx212_2 :)
     replace hx212_3 := (cel HB.out hx212_3 :)
     replace p212 := eq_true p212
     replace q212 := eq_true q212
     have p214 : 0 ≤ (x3_1 : Int) := of_decide_eq_true (by first | (with_reducible assumption) | assumption)
     have q214 : x3_1 < (l0.length : Int) := of_decide_eq_true (by first | (with_reducible assumption) | assumption)
     obtain ⟨ad214, e214, hx214_0, hx214_1, hx214_2, hx214_3⟩ := at_T95 HR0.out x3_1 p214 q214
     have hw214_3 := hx214_3
     have hw214_2 := hx214_2
     have hw214_1 := hx214_1
     have hw214_0 := hx214_0
     obtain rfl : ad212 = ad214 := (by injection e214)
     replace hx214_0 := (cel HB.out hx214_0 :)
     replace hx214_1 := (cel HB.out hx214_1 :)
     replace hx214_2 := (cel HB.out hx214_2 :)
     replace hx214_3 := (cel HB.out hx214_3 :)
     replace p214 := eq_true p214
     replace q214 := eq_true q214
     have p216 : 0 ≤ (x3_1 : Int) := of_decide_eq_true (by first | (with_reducible assumption) | assumption)
     have q216 : x3_1 < (l0.length : Int) := of_decide_eq_true (by first | (with_reducible assumption) | assumption)
     obtain ⟨ad216, e216, hx216_0, hx216_1, hx216_2, hx216_3⟩ := at_T95 HR0.out x3_1 p216 q216
     have hw216_3 := hx216_3
     have hw216_2 := hx216_2
     have hw216_1 := hx216_1
     have hw216_0 := hx216_0
     obtain rfl : ad212 = ad216 := (by injection e216)
     replace hx216_0 := (cel HB.out hx216_0 :)
     replace hx216_1 := (cel HB.out hx216_1 :)
     replace hx216_2 := (cel HB.out hx216_2 :)
     replace hx216_3 := (cel HB.out hx216_3 :)
     replace p216 := eq_true p216
     replace q216 := eq_true q216
     refine start_ (n := 43) (S := fun w' => w'.cell? (ad212.add ((x3_1).toNat * 4)) = some (.int .i64 ((rd_T95 l0 x3_1).f0)) ∧ w'.cell? ⟨(ad212.add ((x3_1).toNat * 4)).block, (ad212.add ((x3_1).toNat * 4)).off + 1, none⟩ = some (.int .i64 ((rd_T95 l0 x3_1).f1)) ∧ w'.cell? ⟨(ad212.add ((x3_1).toNat * 4)).block, (ad212.add ((x3_1).toNat * 4)).off + 2, none⟩ = some (.int .i64 ((rd_T95 l0 x3_1).f2)) ∧ w'.cell? ⟨(ad212.add ((x3_1).toNat * 4)).block, (ad212.add ((x3_1).toNat * 4)).off + 3, none⟩ = some (.bool ((rd_T95 l0 x3_1).f3)) ∧ w'.cell? (ad212.add ((x3_1).toNat * 4)) = some (.int .i64 ((rd_T95 l0 x3_1).f0)) ∧ w'.cell? ⟨(ad212.add ((x3_1).toNat * 4)).block, (ad212.add ((x3_1).toNat * 4)).off + 1, none⟩ = some (.int .i64 ((rd_T95 l0 x3_1).f1)) ∧ w'.cell? ⟨(ad212.add ((x3_1).toNat * 4)).block, (ad212.add ((x3_1).toNat * 4)).off + 2, none⟩ = some (.int .i64 ((rd_T95 l0 x3_1).f2)) ∧ w'.cell? ⟨(ad212.add ((x3_1).toNat * 4)).block, (ad212.add ((x3_1).toNat * 4)).off + 3, none⟩ = some (.bool ((rd_T95 l0 x3_1).f3)) ∧ w'.cell? (ad212.add ((x3_1).toNat * 4)) = some (.int .i64 ((rd_T95 l0 x3_1).f0)) ∧ w'.cell? ⟨(ad212.add ((x3_1).toNat * 4)).block, (ad212.add ((x3_1).toNat * 4)).off + 1, none⟩ = some (.int .i64 ((rd_T95 l0 x3_1).f1)) ∧ w'.cell? ⟨(ad212.add ((x3_1).toNat * 4)).block, (ad212.add ((x3_1).toNat * 4)).off + 2, none⟩ = some (.int .i64 ((rd_T95 l0 x3_1).f2)) ∧ w'.cell? ⟨(ad212.add ((x3_1).toNat * 4)).block, (ad212.add ((x3_1).toNat * 4)).off + 3, none⟩ = some (.bool ((rd_T95 l0 x3_1).f3))) (ds := []) (ar 43 0 []) (by kernel_rfl) rfl rfl ⟨((cel HB.out hw212_0 :)), ((cel HB.out hw212_1 :)), ((cel HB.out hw212_2 :)), ((cel HB.out hw212_3 :)), ((cel HB.out hw214_0 :)), ((cel HB.out hw214_1 :)), ((cel HB.out hw214_2 :)), ((cel HB.out hw214_3 :)), ((cel HB.out hw216_0 :)), ((cel HB.out hw216_1 :)), ((cel HB.out hw216_2 :)), ((cel HB.out hw216_3 :))⟩ (fun hHeld => ?_); refine with_tabW spec_AreCrew.tab4 spec_AreCrew.bits4 (fun HT_ HW_ => ?_)
     generalize wr.drew = w17 at HB hx212_0 hx212_1 hx212_2 hx212_3 hx214_0 hx214_1 hx214_2 hx214_3 hx216_0 hx216_1 hx216_2 hx216_3 hHeld ⊢
     refine pu_ (i := 0) (N := 10) (v := ?_) (a' := ?_) (ar 43 1 []) rfl rfl (any_of HT_.out (by kernel_rfl)) ?_ ?_ ?_
     rotate_left
     · intro w'
       go_simp
       with_reducible rfl
     rotate_left
     · simp only [puts_]
       rfl
     refine pu_ (i := 1) (N := 11) (v := ?_) (a' := ?_) (ar 43 2 []) rfl rfl (any_of HT_.out (by kernel_rfl)) ?_ ?_ ?_
     rotate_left
     · intro w'
       go_simp
       with_reducible rfl
     rotate_left
     · simp only [puts_]
       rfl
     refine pu_ (i := 2) (N := 12) (v := ?_) (a' := ?_) (ar 43 3 []) rfl rfl (any_of HT_.out (by kernel_rfl)) ?_ ?_ ?_
     rotate_left
     · intro w'
       go_simp
       with_reducible rfl
     rotate_left
     · simp only [puts_]
       rfl
     refine pu_ (i := 3) (N := 13) (v := ?_) (a' := ?_) (ar 43 4 []) rfl rfl (any_of HT_.out (by kernel_rfl)) ?_ ?_ ?_
     rotate_left
     · intro w'
       go_simp
       with_reducible rfl
     rotate_left
     · simp only [puts_]
       rfl
     refine tk_ (i := 4) (N := 14) (v := ?_) (a' := ?_) (ar 43 5 []) rfl rfl (take_ofW HT_.out HW_.out (by kernel_rfl)) ?_ hHeld ?_ ?_
     rotate_left
     · rintro w' ⟨s0, s1, s2, s3, s4, s5, s6, s7, s8, s9, s10, s11⟩
       go_simp
       with_reducible rfl
     rotate_left
     · simp only [puts_]
       rfl
     refine one_ (i := 5) (N := some 15) (ar 43 6 []) rfl rfl (one_of HT_.out (by kernel_rfl)) (by decide) (fun K hK => ?_)
     refine goes_ Try.func67 (by kernel_rfl) rfl #[.int .i64 ((rd_T95 l0 x3_1).f0), .int .i64 1, .int .i64 99] (by rfl) rfl rfl (by (try simp only [am_]); first | done | rfl) ?_
     with_reducible refine (spec_l1In.calls ((rd_T95 l0 x3_1).f0) 1 99 true _ A4.out).mono ?_
     rintro e w' ⟨rfl, ⟨nd, rfl⟩⟩
     refine ⟨_, rfl, ?_⟩
     refine hK.out _ _ ⟨((cel HB.out hw212_0 :)), ((cel HB.out hw212_1 :)), ((cel HB.out hw212_2 :)), ((cel HB.out hw212_3 :)), ((cel HB.out hw214_0 :)), ((cel HB.out hw214_1 :)), ((cel HB.out hw214_2 :)), ((cel HB.out hw214_3 :)), ((cel HB.out hw216_0 :)), ((cel HB.out hw216_1 :)), ((cel HB.out hw216_2 :)), ((cel HB.out hw216_3 :))⟩ (fun hHeld => ?_)
     clear hK K
     refine norm_ (a' := ?_) ?_ ?_
     rotate_left
     · show Act.put _ (some 15) _ = _
       simp only [puts_]
       rfl
     refine pu_ (i := 6) (N := 16) (v := ?_) (a' := ?_) (ar 43 7 []) rfl rfl (any_of HT_.out (by kernel_rfl)) ?_ ?_ ?_
     rotate_left
     · intro w'
       go_simp
       with_reducible rfl
     rotate_left
     · simp only [puts_]
       rfl
     refine pu_ (i := 7) (N := 17) (v := ?_) (a' := ?_) (ar 43 8 []) rfl rfl (any_of HT_.out (by kernel_rfl)) ?_ ?_ ?_
     rotate_left
     · intro w'
       go_simp
       with_reducible rfl
     rotate_left
     · simp only [puts_]
       rfl
     refine pu_ (i := 8) (N := 18) (v := ?_) (a' := ?_) (ar 43 9 []) rfl rfl (any_of HT_.out (by kernel_rfl)) ?_ ?_ ?_
     rotate_left
     · intro w'
       go_simp
       with_reducible rfl
     rotate_left
     · simp only [puts_]
       rfl
     refine pu_ (i := 9) (N := 19) (v := ?_) (a' := ?_) (ar 43 10 []) rfl rfl (any_of HT_.out (by kernel_rfl)) ?_ ?_ ?_
     rotate_left
     · intro w'
       go_simp
       with_reducible rfl
     rotate_left
     · simp only [puts_]
       rfl
     refine pu_ (i := 10) (N := 20) (v := ?_) (a' := ?_) (ar 43 11 []) rfl rfl (any_of HT_.out (by kernel_rfl)) ?_ ?_ ?_
     rotate_left
     · intro w'
       go_simp
       with_reducible rfl
     rotate_left
     · simp only [puts_]
       rfl
     refine pu_ (i := 11) (N := 21) (v := ?_) (a' := ?_) (ar 43 12 []) rfl rfl (any_of HT_.out (by kernel_rfl)) ?_ ?_ ?_
     rotate_left
     · intro w'
       go_simp
       with_reducible rfl
     rotate_left
     · simp only [puts_]
       rfl
     refine tk_ (i := 12) (N := 22) (v := ?_) (a' := ?_) (ar 43 13 []) rfl rfl (take_ofW HT_.out HW_.out (by kernel_rfl)) ?_ hHeld ?_ ?_
     rotate_left
     · rintro w' ⟨s0, s1, s2, s3, s4, s5, s6, s7, s8, s9, s10, s11⟩
       go_simp
       with_reducible rfl
     rotate_left
     · simp only [puts_]
       rfl
     refine one_ (i := 13) (N := some 23) (ar 43 14 []) rfl rfl (one_of HT_.out (by kernel_rfl)) (by decide) (fun K hK => ?_)
     refine goes_ Try.func67 (by kernel_rfl) rfl #[.int .i64 ((rd_T95 l0 x3_1).f1), .int .i64 0, .int .i64 100] (by rfl) rfl rfl (by (try simp only [am_]); first | done | rfl) ?_
     with_reducible refine (spec_l1In.calls ((rd_T95 l0 x3_1).f1) 0 100 true _ A6.out).mono ?_
     rintro e w' ⟨rfl, ⟨nd, rfl⟩⟩
     refine ⟨_, rfl, ?_⟩
     refine hK.out _ _ ⟨((cel HB.out hw212_0 :)), ((cel HB.out hw212_1 :)), ((cel HB.out hw212_2 :)), ((cel HB.out hw212_3 :)), ((cel HB.out hw214_0 :)), ((cel HB.out hw214_1 :)), ((cel HB.out hw214_2 :)), ((cel HB.out hw214_3 :)), ((cel HB.out hw216_0 :)), ((cel HB.out hw216_1 :)), ((cel HB.out hw216_2 :)), ((cel HB.out hw216_3 :))⟩ (fun hHeld => ?_)
     clear hK K
     refine norm_ (a' := ?_) ?_ ?_
     rotate_left
     · show Act.put _ (some 23) _ = _
       simp only [puts_]
       rfl
     refine pu_ (i := 14) (N := 24) (v := ?_) (a' := ?_) (ar 43 15 []) rfl rfl (any_of HT_.out (by kernel_rfl)) ?_ ?_ ?_
     rotate_left
     · intro w'
       go_simp
       with_reducible rfl
     rotate_left
     · simp only [puts_]
       rfl
     refine pu_ (i := 15) (N := 25) (v := ?_) (a' := ?_) (ar 43 16 []) rfl rfl (any_of HT_.out (by kernel_rfl)) ?_ ?_ ?_
     rotate_left
     · intro w'
       go_simp
       with_reducible rfl
     rotate_left
     · simp only [puts_]
       rfl
     refine pu_ (i := 16) (N := 26) (v := ?_) (a' := ?_) (ar 43 17 []) rfl rfl (any_of HT_.out (by kernel_rfl)) ?_ ?_ ?_
     rotate_left
     · intro w'
       go_simp
       with_reducible rfl
     rotate_left
     · simp only [puts_]
       rfl
     refine pu_ (i := 17) (N := 27) (v := ?_) (a' := ?_) (ar 43 18 []) rfl rfl (any_of HT_.out (by kernel_rfl)) ?_ ?_ ?_
     rotate_left
     · intro w'
       go_simp
       with_reducible rfl
     rotate_left
     · simp only [puts_]
       rfl
     refine pu_ (i := 18) (N := 28) (v := ?_) (a' := ?_) (ar 43 19 []) rfl rfl (any_of HT_.out (by kernel_rfl)) ?_ ?_ ?_
     rotate_left
     · intro w'
       go_simp
       with_reducible rfl
     rotate_left
     · simp only [puts_]
       rfl
     refine pu_ (i := 19) (N := 29) (v := ?_) (a' := ?_) (ar 43 20 []) rfl rfl (any_of HT_.out (by kernel_rfl)) ?_ ?_ ?_
     rotate_left
     · intro w'
       go_simp
       with_reducible rfl
     rotate_left
     · simp only [puts_]
       rfl
     refine pu_ (i := 20) (N := 30) (v := ?_) (a' := ?_) (ar 43 21 []) rfl rfl (any_of HT_.out (by kernel_rfl)) ?_ ?_ ?_
     rotate_left
     · intro w'
       go_simp
       with_reducible rfl
     rotate_left
     · simp only [puts_]
       rfl
     refine tk_ (i := 21) (N := 31) (v := ?_) (a' := ?_) (ar 43 22 []) rfl rfl (take_ofW HT_.out HW_.out (by kernel_rfl)) ?_ hHeld ?_ ?_
     rotate_left
     · rintro w' ⟨s0, s1, s2, s3, s4, s5, s6, s7, s8, s9, s10, s11⟩
       go_simp
       with_reducible rfl
     rotate_left
     · simp only [puts_]
       rfl
     refine one_ (i := 22) (N := some 32) (ar 43 23 []) rfl rfl (one_of HT_.out (by kernel_rfl)) (by decide) (fun K hK => ?_)
     refine goes_ Try.func67 (by kernel_rfl) rfl #[.int .i64 ((rd_T95 l0 x3_1).f2), .int .i64 1, .int .i64 10] (by rfl) rfl rfl (by (try simp only [am_]); first | done | rfl) ?_
     with_reducible refine (spec_l1In.calls ((rd_T95 l0 x3_1).f2) 1 10 true _ A8.out).mono ?_
     rintro e w' ⟨rfl, ⟨nd, rfl⟩⟩
     refine ⟨_, rfl, ?_⟩
     refine hK.out _ _ ⟨((cel HB.out hw212_0 :)), ((cel HB.out hw212_1 :)), ((cel HB.out hw212_2 :)), ((cel HB.out hw212_3 :)), ((cel HB.out hw214_0 :)), ((cel HB.out hw214_1 :)), ((cel HB.out hw214_2 :)), ((cel HB.out hw214_3 :)), ((cel HB.out hw216_0 :)), ((cel HB.out hw216_1 :)), ((cel HB.out hw216_2 :)), ((cel HB.out hw216_3 :))⟩ (fun hHeld => ?_)
     clear hK K
     refine norm_ (a' := ?_) ?_ ?_
     rotate_left
     · show Act.put _ (some 32) _ = _
       simp only [puts_]
       rfl
     refine pu_ (i := 23) (N := 33) (v := ?_) (a' := ?_) (ar 43 24 []) rfl rfl (any_of HT_.out (by kernel_rfl)) ?_ ?_ ?_
     rotate_left
     · intro w'
       go_simp
       with_reducible rfl
     rotate_left
     · simp only [puts_]
       rfl
     refine pu_ (i := 24) (N := 34) (v := ?_) (a' := ?_) (ar 43 25 []) rfl rfl (any_of HT_.out (by kernel_rfl)) ?_ ?_ ?_
     rotate_left
     · intro w'
       go_simp
       with_reducible rfl
     rotate_left
     · simp only [puts_]
       rfl
     refine pu_ (i := 25) (N := 35) (v := ?_) (a' := ?_) (ar 43 26 []) rfl rfl (any_of HT_.out (by kernel_rfl)) ?_ ?_ ?_
     rotate_left
     · intro w'
       go_simp
       with_reducible rfl
     rotate_left
     · simp only [puts_]
       rfl
     refine pu_ (i := 26) (N := 36) (v := ?_) (a' := ?_) (ar 43 27 []) rfl rfl (any_of HT_.out (by kernel_rfl)) ?_ ?_ ?_
     rotate_left
     · intro w'
       go_simp
       with_reducible rfl
     rotate_left
     · simp only [puts_]
       rfl
     refine pu_ (i := 27) (N := 37) (v := ?_) (a' := ?_) (ar 43 28 []) rfl rfl (any_of HT_.out (by kernel_rfl)) ?_ ?_ ?_
     rotate_left
     · intro w'
       go_simp
       with_reducible rfl
     rotate_left
     · simp only [puts_]
       rfl
     refine pu_ (i := 28) (N := 38) (v := ?_) (a' := ?_) (ar 43 29 []) rfl rfl (any_of HT_.out (by kernel_rfl)) ?_ ?_ ?_
     rotate_left
     · intro w'
       go_simp
       with_reducible rfl
     rotate_left
     · simp only [puts_]
       rfl
     refine pn_ (i := 29) (N := 39) (a' := ?_) (ar 43 30 []) rfl rfl (any_of HT_.out (by kernel_rfl)) ?_ ?_
     rotate_left
     · simp only [puts_]
       rfl
     refine pn_ (i := 30) (N := 40) (a' := ?_) (ar 43 31 []) rfl rfl (any_of HT_.out (by kernel_rfl)) ?_ ?_
     rotate_left
     · simp only [puts_]
       rfl
     refine pn_ (i := 31) (N := 41) (a' := ?_) (ar 43 32 []) rfl rfl (any_of HT_.out (by kernel_rfl)) ?_ ?_
     rotate_left
     · simp only [puts_]
       rfl
     refine pn_ (i := 32) (N := 42) (a' := ?_) (ar 43 33 []) rfl rfl (any_of HT_.out (by kernel_rfl)) ?_ ?_
     rotate_left
     · simp only [puts_]
       rfl
     refine pn_ (i := 33) (N := 43) (a' := ?_) (ar 43 34 []) rfl rfl (any_of HT_.out (by kernel_rfl)) ?_ ?_
     rotate_left
     · simp only [puts_]
       rfl
     refine pn_ (i := 34) (N := 44) (a' := ?_) (ar 43 35 []) rfl rfl (any_of HT_.out (by kernel_rfl)) ?_ ?_
     rotate_left
     · simp only [puts_]
       rfl
     refine pn_ (i := 35) (N := 45) (a' := ?_) (ar 43 36 []) rfl rfl (any_of HT_.out (by kernel_rfl)) ?_ ?_
     rotate_left
     · simp only [puts_]
       rfl
     refine pn_ (i := 36) (N := 46) (a' := ?_) (ar 43 37 []) rfl rfl (any_of HT_.out (by kernel_rfl)) ?_ ?_
     rotate_left
     · simp only [puts_]
       rfl
     refine pn_ (i := 37) (N := 47) (a' := ?_) (ar 43 38 []) rfl rfl (any_of HT_.out (by kernel_rfl)) ?_ ?_
     rotate_left
     · simp only [puts_]
       rfl
     refine pn_ (i := 38) (N := 48) (a' := ?_) (ar 43 39 []) rfl rfl (any_of HT_.out (by kernel_rfl)) ?_ ?_
     rotate_left
     · simp only [puts_]
       rfl
     refine pn_ (i := 39) (N := 49) (a' := ?_) (ar 43 40 []) rfl rfl (any_of HT_.out (by kernel_rfl)) ?_ ?_
     rotate_left
     · simp only [puts_]
       rfl
     refine pn_ (i := 40) (N := 50) (a' := ?_) (ar 43 41 []) rfl rfl (any_of HT_.out (by kernel_rfl)) ?_ ?_
     rotate_left
     · simp only [puts_]
       rfl
     refine pu_ (i := 41) (N := 51) (v := ?_) (a' := ?_) (ar 43 42 []) rfl rfl (any_of HT_.out (by kernel_rfl)) ?_ ?_ ?_
     rotate_left
     · intro w'
       go_simp
       with_reducible rfl
     rotate_left
     · simp only [puts_]
       rfl
     refine pu_ (i := 42) (N := 52) (v := ?_) (a' := ?_) (ar 43 43 []) rfl rfl (any_of HT_.out (by kernel_rfl)) ?_ ?_ ?_
     rotate_left
     · intro w'
       go_simp
       with_reducible rfl
     rotate_left
     · simp only [puts_]
       rfl
     refine done_ (done_of HT_.out (by kernel_rfl)) ?_
     try go_wp2
     go_roundg k1
     case measure => have := HK1.out; omega
     case rel => exact ⟨(wrap64 (x3_1 + 1)), (by first | rfl | (simp; done) | (simp [*]; done)), H', ⟨by have := HK1.out; omega⟩, ⟨below_up HB.out⟩⟩
   rw [if_pos c10] at H
   have c10b0 : decide (0 < x3_1) = true := decide_eq_true c10
   clear c10
   obtain ⟨ji11, hji11⟩ : ∃ j_ : Int, (wrap64 (x3_1 - 1)) = j_ := ⟨_, rfl⟩
   replace H : (if 0 ≤ (ji11) then (if (ji11) < (l0.length : Int) then (if ((rd_T95 l0 (ji11)).f0) ≥ ((rd_T95 l0 x3_1).f0) then (some false) else (spec_AreCrew.l0 k1 l0 (wrap64 (x3_1 + 1)))) else (none)) else (none)) = some r := by first | (rw [hji11] at H; exact H) | (simp only [hji11] at H ⊢; exact H)
   (try rw [hji11] at A4)
   (try rw [hji11] at A6)
   (try rw [hji11] at A8)
   have hji11w : (IntKind.i64.wrap (x3_1 - 1)) = ji11 := (i64_w _).trans hji11
   by_cases c12 : 0 ≤ (ji11)
   rotate_left
   · rw [if_neg c12] at H
     exact absurd H (by simp)
   rw [if_pos c12] at H
   have c12b0 : decide (0 ≤ (ji11)) = true := decide_eq_true c12
   clear c12
   by_cases c13 : (ji11) < (l0.length : Int)
   rotate_left
   · rw [if_neg c13] at H
     exact absurd H (by simp)
   rw [if_pos c13] at H
   have c13b0 : decide ((ji11) < (l0.length : Int)) = true := decide_eq_true c13
   clear c13
   by_cases c14 : ((rd_T95 l0 (ji11)).f0) ≥ ((rd_T95 l0 x3_1).f0)
   rotate_left
   · rw [if_neg c14] at H
     have c14b0 : decide (((rd_T95 l0 x3_1).f0) ≤ ((rd_T95 l0 (ji11)).f0)) = false := decide_eq_false c14
     clear c14
     have H' := Aside0.mk H
     clear H
     try go_wp2
     have n0_ := Aside0.mk (below_drew1 HB.out)
     clear HB
     have HB := n0_
     clear n0_
     have p212 : 0 ≤ (x3_1 : Int) := of_decide_eq_true (by first | (with_reducible assumption) | assumption)
     have q212 : x3_1 < (l0.length : Int) := of_decide_eq_true (by first | (with_reducible assumption) | assumption)
     obtain ⟨ad212, e212, hx212_0, hx212_1, hx212_2, hx212_3⟩ := at_T95 HR0.out x3_1 p212 q212
     have hw212_3 := hx212_3
     have hw212_2 := hx212_2
     have hw212_1 := hx212_1
     have hw212_0 := hx212_0
     cases e212
     replace hx212_0 := (cel HB.out hx212_0 :)
     replace hx212_1 := (cel HB.out hx212_1 :)
     replace hx212_2 := (cel HB.out hx212_2 :)
     replace hx212_3 := (cel HB.out hx212_3 :)
     replace p212 := eq_true p212
     replace q212 := eq_true q212
     have p214 : 0 ≤ (x3_1 : Int) := of_decide_eq_true (by first | (with_reducible assumption) | assumption)
     have q214 : x3_1 < (l0.length : Int) := of_decide_eq_true (by first | (with_reducible assumption) | assumption)
     obtain ⟨ad214, e214, hx214_0, hx214_1, hx214_2, hx214_3⟩ := at_T95 HR0.out x3_1 p214 q214
     have hw214_3 := hx214_3
     have hw214_2 := hx214_2
     have hw214_1 := hx214_1
     have hw214_0 := hx214_0
     obtain rfl : ad212 = ad214 := (by injection e214)
     replace hx214_0 := (cel HB.out hx214_0 :)
     replace hx214_1 := (cel HB.out hx214_1 :)
     replace hx214_2 := (cel HB.out hx214_2 :)
     replace hx214_3 := (cel HB.out hx214_3 :)
     replace p214 := eq_true p214
     replace q214 := eq_true q214
     have p216 : 0 ≤ (x3_1 : Int) := of_decide_eq_true (by first | (with_reducible assumption) | assumption)
     have q216 : x3_1 < (l0.length : Int) := of_decide_eq_true (by first | (with_reducible assumption) | assumption)
     obtain ⟨ad216, e216, hx216_0, hx216_1, hx216_2, hx216_3⟩ := at_T95 HR0.out x3_1 p216 q216
     have hw216_3 := hx216_3
     have hw216_2 := hx216_2
     have hw216_1 := hx216_1
     have hw216_0 := hx216_0
     obtain rfl : ad212 = ad216 := (by injection e216)
     replace hx216_0 := (cel HB.out hx216_0 :)
     replace hx216_1 := (cel HB.out hx216_1 :)
     replace hx216_2 := (cel HB.out hx216_2 :)
     replace hx216_3 := (cel HB.out hx216_3 :)
     replace p216 := eq_true p216
     replace q216 := eq_true q216
     have p218 : 0 ≤ ((ji11) : Int) := of_decide_eq_true (by first | (with_reducible assumption) | assumption)
     have q218 : (ji11) < (l0.length : Int) := of_decide_eq_true (by first | (with_reducible assumption) | assumption)
     obtain ⟨ad218, e218, hx218_0, hx218_1, hx218_2, hx218_3⟩ := at_T95 HR0.out (ji11) p218 q218
     have hw218_3 := hx218_3
     have hw218_2 := hx218_2
     have hw218_1 := hx218_1
     have hw218_0 := hx218_0
     obtain rfl : ad212 = ad218 := (by injection e218)
     replace hx218_0 := (cel HB.out hx218_0 :)
     replace hx218_1 := (cel HB.out hx218_1 :)
     replace hx218_2 := (cel HB.out hx218_2 :)
     replace hx218_3 := (cel HB.out hx218_3 :)
     replace p218 := eq_true p218
     replace q218 := eq_true q218
     have p219 : 0 ≤ (x3_1 : Int) := of_decide_eq_true (by first | (with_reducible assumption) | assumption)
     have q219 : x3_1 < (l0.length : Int) := of_decide_eq_true (by first | (with_reducible assumption) | assumption)
     obtain ⟨ad219, e219, hx219_0, hx219_1, hx219_2, hx219_3⟩ := at_T95 HR0.out x3_1 p219 q219
     have hw219_3 := hx219_3
     have hw219_2 := hx219_2
     have hw219_1 := hx219_1
     have hw219_0 := hx219_0
     obtain rfl : ad212 = ad219 := (by injection e219)
     replace hx219_0 := (cel HB.out hx219_0 :)
     replace hx219_1 := (cel HB.out hx219_1 :)
     replace hx219_2 := (cel HB.out hx219_2 :)
     replace hx219_3 := (cel HB.out hx219_3 :)
     replace p219 := eq_true p219
     replace q219 := eq_true q219
     refine start_ (n := 43) (S := fun w' => w'.cell? (ad212.add ((x3_1).toNat * 4)) = some (.int .i64 ((rd_T95 l0 x3_1).f0)) ∧ w'.cell? ⟨(ad212.add ((x3_1).toNat * 4)).block, (ad212.add ((x3_1).toNat * 4)).off + 1, none⟩ = some (.int .i64 ((rd_T95 l0 x3_1).f1)) ∧ w'.cell? ⟨(ad212.add ((x3_1).toNat * 4)).block, (ad212.add ((x3_1).toNat * 4)).off + 2, none⟩ = some (.int .i64 ((rd_T95 l0 x3_1).f2)) ∧ w'.cell? ⟨(ad212.add ((x3_1).toNat * 4)).block, (ad212.add ((x3_1).toNat * 4)).off + 3, none⟩ = some (.bool ((rd_T95 l0 x3_1).f3)) ∧ w'.cell? (ad212.add ((x3_1).toNat * 4)) = some (.int .i64 ((rd_T95 l0 x3_1).f0)) ∧ w'.cell? ⟨(ad212.add ((x3_1).toNat * 4)).block, (ad212.add ((x3_1).toNat * 4)).off + 1, none⟩ = some (.int .i64 ((rd_T95 l0 x3_1).f1)) ∧ w'.cell? ⟨(ad212.add ((x3_1).toNat * 4)).block, (ad212.add ((x3_1).toNat * 4)).off + 2, none⟩ = some (.int .i64 ((rd_T95 l0 x3_1).f2)) ∧ w'.cell? ⟨(ad212.add ((x3_1).toNat * 4)).block, (ad212.add ((x3_1).toNat * 4)).off + 3, none⟩ = some (.bool ((rd_T95 l0 x3_1).f3)) ∧ w'.cell? (ad212.add ((x3_1).toNat * 4)) = some (.int .i64 ((rd_T95 l0 x3_1).f0)) ∧ w'.cell? ⟨(ad212.add ((x3_1).toNat * 4)).block, (ad212.add ((x3_1).toNat * 4)).off + 1, none⟩ = some (.int .i64 ((rd_T95 l0 x3_1).f1)) ∧ w'.cell? ⟨(ad212.add ((x3_1).toNat * 4)).block, (ad212.add ((x3_1).toNat * 4)).off + 2, none⟩ = some (.int .i64 ((rd_T95 l0 x3_1).f2)) ∧ w'.cell? ⟨(ad212.add ((x3_1).toNat * 4)).block, (ad212.add ((x3_1).toNat * 4)).off + 3, none⟩ = some (.bool ((rd_T95 l0 x3_1).f3)) ∧ w'.cell? (ad212.add (((ji11)).toNat * 4)) = some (.int .i64 ((rd_T95 l0 (ji11)).f0)) ∧ w'.cell? ⟨(ad212.add (((ji11)).toNat * 4)).block, (ad212.add (((ji11)).toNat * 4)).off + 1, none⟩ = some (.int .i64 ((rd_T95 l0 (ji11)).f1)) ∧ w'.cell? ⟨(ad212.add (((ji11)).toNat * 4)).block, (ad212.add (((ji11)).toNat * 4)).off + 2, none⟩ = some (.int .i64 ((rd_T95 l0 (ji11)).f2)) ∧ w'.cell? ⟨(ad212.add (((ji11)).toNat * 4)).block, (ad212.add (((ji11)).toNat * 4)).off + 3, none⟩ = some (.bool ((rd_T95 l0 (ji11)).f3)) ∧ w'.cell? (ad212.add ((x3_1).toNat * 4)) = some (.int .i64 ((rd_T95 l0 x3_1).f0)) ∧ w'.cell? ⟨(ad212.add ((x3_1).toNat * 4)).block, (ad212.add ((x3_1).toNat * 4)).off + 1, none⟩ = some (.int .i64 ((rd_T95 l0 x3_1).f1)) ∧ w'.cell? ⟨(ad212.add ((x3_1).toNat * 4)).block, (ad212.add ((x3_1).toNat * 4)).off + 2, none⟩ = some (.int .i64 ((rd_T95 l0 x3_1).f2)) ∧ w'.cell? ⟨(ad212.add ((x3_1).toNat * 4)).block, (ad212.add ((x3_1).toNat * 4)).off + 3, none⟩ = some (.bool ((rd_T95 l0 x3_1).f3))) (ds := []) (ar 43 0 []) (by kernel_rfl) rfl rfl ⟨((cel HB.out hw212_0 :)), ((cel HB.out hw212_1 :)), ((cel HB.out hw212_2 :)), ((cel HB.out hw212_3 :)), ((cel HB.out hw214_0 :)), ((cel HB.out hw214_1 :)), ((cel HB.out hw214_2 :)), ((cel HB.out hw214_3 :)), ((cel HB.out hw216_0 :)), ((cel HB.out hw216_1 :)), ((cel HB.out hw216_2 :)), ((cel HB.out hw216_3 :)), ((cel HB.out hw218_0 :)), ((cel HB.out hw218_1 :)), ((cel HB.out hw218_2 :)), ((cel HB.out hw218_3 :)), ((cel HB.out hw219_0 :)), ((cel HB.out hw219_1 :)), ((cel HB.out hw219_2 :)), ((cel HB.out hw219_3 :))⟩ (fun hHeld => ?_); refine with_tabW spec_AreCrew.tab4 spec_AreCrew.bits4 (fun HT_ HW_ => ?_)
     generalize wr.drew = w16 at HB hx212_0 hx212_1 hx212_2 hx212_3 hx214_0 hx214_1 hx214_2 hx214_3 hx216_0 hx216_1 hx216_2 hx216_3 hx218_0 hx218_1 hx218_2 hx218_3 hx219_0 hx219_1 hx219_2 hx219_3 hHeld ⊢
     refine pu_ (i := 0) (N := 10) (v := ?_) (a' := ?_) (ar 43 1 []) rfl rfl (any_of HT_.out (by kernel_rfl)) ?_ ?_ ?_
     rotate_left
     · intro w'
       go_simp
       with_reducible rfl
     rotate_left
     · simp only [puts_]
       rfl
     refine pu_ (i := 1) (N := 11) (v := ?_) (a' := ?_) (ar 43 2 []) rfl rfl (any_of HT_.out (by kernel_rfl)) ?_ ?_ ?_
     rotate_left
     · intro w'
       go_simp
       with_reducible rfl
     rotate_left
     · simp only [puts_]
       rfl
     refine pu_ (i := 2) (N := 12) (v := ?_) (a' := ?_) (ar 43 3 []) rfl rfl (any_of HT_.out (by kernel_rfl)) ?_ ?_ ?_
     rotate_left
     · intro w'
       go_simp
       with_reducible rfl
     rotate_left
     · simp only [puts_]
       rfl
     refine pu_ (i := 3) (N := 13) (v := ?_) (a' := ?_) (ar 43 4 []) rfl rfl (any_of HT_.out (by kernel_rfl)) ?_ ?_ ?_
     rotate_left
     · intro w'
       go_simp
       with_reducible rfl
     rotate_left
     · simp only [puts_]
       rfl
     refine tk_ (i := 4) (N := 14) (v := ?_) (a' := ?_) (ar 43 5 []) rfl rfl (take_ofW HT_.out HW_.out (by kernel_rfl)) ?_ hHeld ?_ ?_
     rotate_left
     · rintro w' ⟨s0, s1, s2, s3, s4, s5, s6, s7, s8, s9, s10, s11, s12, s13, s14, s15, s16, s17, s18, s19⟩
       go_simp
       with_reducible rfl
     rotate_left
     · simp only [puts_]
       rfl
     refine one_ (i := 5) (N := some 15) (ar 43 6 []) rfl rfl (one_of HT_.out (by kernel_rfl)) (by decide) (fun K hK => ?_)
     refine goes_ Try.func67 (by kernel_rfl) rfl #[.int .i64 ((rd_T95 l0 x3_1).f0), .int .i64 1, .int .i64 99] (by rfl) rfl rfl (by (try simp only [am_]); first | done | rfl) ?_
     with_reducible refine (spec_l1In.calls ((rd_T95 l0 x3_1).f0) 1 99 true _ A4.out).mono ?_
     rintro e w' ⟨rfl, ⟨nd, rfl⟩⟩
     refine ⟨_, rfl, ?_⟩
     refine hK.out _ _ ⟨((cel HB.out hw212_0 :)), ((cel HB.out hw212_1 :)), ((cel HB.out hw212_2 :)), ((cel HB.out hw212_3 :)), ((cel HB.out hw214_0 :)), ((cel HB.out hw214_1 :)), ((cel HB.out hw214_2 :)), ((cel HB.out hw214_3 :)), ((cel HB.out hw216_0 :)), ((cel HB.out hw216_1 :)), ((cel HB.out hw216_2 :)), ((cel HB.out hw216_3 :)), ((cel HB.out hw218_0 :)), ((cel HB.out hw218_1 :)), ((cel HB.out hw218_2 :)), ((cel HB.out hw218_3 :)), ((cel HB.out hw219_0 :)), ((cel HB.out hw219_1 :)), ((cel HB.out hw219_2 :)), ((cel HB.out hw219_3 :))⟩ (fun hHeld => ?_)
     clear hK K
     refine norm_ (a' := ?_) ?_ ?_
     rotate_left
     · show Act.put _ (some 15) _ = _
       simp only [puts_]
       rfl
     refine pu_ (i := 6) (N := 16) (v := ?_) (a' := ?_) (ar 43 7 []) rfl rfl (any_of HT_.out (by kernel_rfl)) ?_ ?_ ?_
     rotate_left
     · intro w'
       go_simp
       with_reducible rfl
     rotate_left
     · simp only [puts_]
       rfl
     refine pu_ (i := 7) (N := 17) (v := ?_) (a' := ?_) (ar 43 8 []) rfl rfl (any_of HT_.out (by kernel_rfl)) ?_ ?_ ?_
     rotate_left
     · intro w'
       go_simp
       with_reducible rfl
     rotate_left
     · simp only [puts_]
       rfl
     refine pu_ (i := 8) (N := 18) (v := ?_) (a' := ?_) (ar 43 9 []) rfl rfl (any_of HT_.out (by kernel_rfl)) ?_ ?_ ?_
     rotate_left
     · intro w'
       go_simp
       with_reducible rfl
     rotate_left
     · simp only [puts_]
       rfl
     refine pu_ (i := 9) (N := 19) (v := ?_) (a' := ?_) (ar 43 10 []) rfl rfl (any_of HT_.out (by kernel_rfl)) ?_ ?_ ?_
     rotate_left
     · intro w'
       go_simp
       with_reducible rfl
     rotate_left
     · simp only [puts_]
       rfl
     refine pu_ (i := 10) (N := 20) (v := ?_) (a' := ?_) (ar 43 11 []) rfl rfl (any_of HT_.out (by kernel_rfl)) ?_ ?_ ?_
     rotate_left
     · intro w'
       go_simp
       with_reducible rfl
     rotate_left
     · simp only [puts_]
       rfl
     refine pu_ (i := 11) (N := 21) (v := ?_) (a' := ?_) (ar 43 12 []) rfl rfl (any_of HT_.out (by kernel_rfl)) ?_ ?_ ?_
     rotate_left
     · intro w'
       go_simp
       with_reducible rfl
     rotate_left
     · simp only [puts_]
       rfl
     refine tk_ (i := 12) (N := 22) (v := ?_) (a' := ?_) (ar 43 13 []) rfl rfl (take_ofW HT_.out HW_.out (by kernel_rfl)) ?_ hHeld ?_ ?_
     rotate_left
     · rintro w' ⟨s0, s1, s2, s3, s4, s5, s6, s7, s8, s9, s10, s11, s12, s13, s14, s15, s16, s17, s18, s19⟩
       go_simp
       with_reducible rfl
     rotate_left
     · simp only [puts_]
       rfl
     refine one_ (i := 13) (N := some 23) (ar 43 14 []) rfl rfl (one_of HT_.out (by kernel_rfl)) (by decide) (fun K hK => ?_)
     refine goes_ Try.func67 (by kernel_rfl) rfl #[.int .i64 ((rd_T95 l0 x3_1).f1), .int .i64 0, .int .i64 100] (by rfl) rfl rfl (by (try simp only [am_]); first | done | rfl) ?_
     with_reducible refine (spec_l1In.calls ((rd_T95 l0 x3_1).f1) 0 100 true _ A6.out).mono ?_
     rintro e w' ⟨rfl, ⟨nd, rfl⟩⟩
     refine ⟨_, rfl, ?_⟩
     refine hK.out _ _ ⟨((cel HB.out hw212_0 :)), ((cel HB.out hw212_1 :)), ((cel HB.out hw212_2 :)), ((cel HB.out hw212_3 :)), ((cel HB.out hw214_0 :)), ((cel HB.out hw214_1 :)), ((cel HB.out hw214_2 :)), ((cel HB.out hw214_3 :)), ((cel HB.out hw216_0 :)), ((cel HB.out hw216_1 :)), ((cel HB.out hw216_2 :)), ((cel HB.out hw216_3 :)), ((cel HB.out hw218_0 :)), ((cel HB.out hw218_1 :)), ((cel HB.out hw218_2 :)), ((cel HB.out hw218_3 :)), ((cel HB.out hw219_0 :)), ((cel HB.out hw219_1 :)), ((cel HB.out hw219_2 :)), ((cel HB.out hw219_3 :))⟩ (fun hHeld => ?_)
     clear hK K
     refine norm_ (a' := ?_) ?_ ?_
     rotate_left
     · show Act.put _ (some 23) _ = _
       simp only [puts_]
       rfl
     refine pu_ (i := 14) (N := 24) (v := ?_) (a' := ?_) (ar 43 15 []) rfl rfl (any_of HT_.out (by kernel_rfl)) ?_ ?_ ?_
     rotate_left
     · intro w'
       go_simp
       with_reducible rfl
     rotate_left
     · simp only [puts_]
       rfl
     refine pu_ (i := 15) (N := 25) (v := ?_) (a' := ?_) (ar 43 16 []) rfl rfl (any_of HT_.out (by kernel_rfl)) ?_ ?_ ?_
     rotate_left
     · intro w'
       go_simp
       with_reducible rfl
     rotate_left
     · simp only [puts_]
       rfl
     refine pu_ (i := 16) (N := 26) (v := ?_) (a' := ?_) (ar 43 17 []) rfl rfl (any_of HT_.out (by kernel_rfl)) ?_ ?_ ?_
     rotate_left
     · intro w'
       go_simp
       with_reducible rfl
     rotate_left
     · simp only [puts_]
       rfl
     refine pu_ (i := 17) (N := 27) (v := ?_) (a' := ?_) (ar 43 18 []) rfl rfl (any_of HT_.out (by kernel_rfl)) ?_ ?_ ?_
     rotate_left
     · intro w'
       go_simp
       with_reducible rfl
     rotate_left
     · simp only [puts_]
       rfl
     refine pu_ (i := 18) (N := 28) (v := ?_) (a' := ?_) (ar 43 19 []) rfl rfl (any_of HT_.out (by kernel_rfl)) ?_ ?_ ?_
     rotate_left
     · intro w'
       go_simp
       with_reducible rfl
     rotate_left
     · simp only [puts_]
       rfl
     refine pu_ (i := 19) (N := 29) (v := ?_) (a' := ?_) (ar 43 20 []) rfl rfl (any_of HT_.out (by kernel_rfl)) ?_ ?_ ?_
     rotate_left
     · intro w'
       go_simp
       with_reducible rfl
     rotate_left
     · simp only [puts_]
       rfl
     refine pu_ (i := 20) (N := 30) (v := ?_) (a' := ?_) (ar 43 21 []) rfl rfl (any_of HT_.out (by kernel_rfl)) ?_ ?_ ?_
     rotate_left
     · intro w'
       go_simp
       with_reducible rfl
     rotate_left
     · simp only [puts_]
       rfl
     refine tk_ (i := 21) (N := 31) (v := ?_) (a' := ?_) (ar 43 22 []) rfl rfl (take_ofW HT_.out HW_.out (by kernel_rfl)) ?_ hHeld ?_ ?_
     rotate_left
     · rintro w' ⟨s0, s1, s2, s3, s4, s5, s6, s7, s8, s9, s10, s11, s12, s13, s14, s15, s16, s17, s18, s19⟩
       go_simp
       with_reducible rfl
     rotate_left
     · simp only [puts_]
       rfl
     refine one_ (i := 22) (N := some 32) (ar 43 23 []) rfl rfl (one_of HT_.out (by kernel_rfl)) (by decide) (fun K hK => ?_)
     refine goes_ Try.func67 (by kernel_rfl) rfl #[.int .i64 ((rd_T95 l0 x3_1).f2), .int .i64 1, .int .i64 10] (by rfl) rfl rfl (by (try simp only [am_]); first | done | rfl) ?_
     with_reducible refine (spec_l1In.calls ((rd_T95 l0 x3_1).f2) 1 10 true _ A8.out).mono ?_
     rintro e w' ⟨rfl, ⟨nd, rfl⟩⟩
     refine ⟨_, rfl, ?_⟩
     refine hK.out _ _ ⟨((cel HB.out hw212_0 :)), ((cel HB.out hw212_1 :)), ((cel HB.out hw212_2 :)), ((cel HB.out hw212_3 :)), ((cel HB.out hw214_0 :)), ((cel HB.out hw214_1 :)), ((cel HB.out hw214_2 :)), ((cel HB.out hw214_3 :)), ((cel HB.out hw216_0 :)), ((cel HB.out hw216_1 :)), ((cel HB.out hw216_2 :)), ((cel HB.out hw216_3 :)), ((cel HB.out hw218_0 :)), ((cel HB.out hw218_1 :)), ((cel HB.out hw218_2 :)), ((cel HB.out hw218_3 :)), ((cel HB.out hw219_0 :)), ((cel HB.out hw219_1 :)), ((cel HB.out hw219_2 :)), ((cel HB.out hw219_3 :))⟩ (fun hHeld => ?_)
     clear hK K
     refine norm_ (a' := ?_) ?_ ?_
     rotate_left
     · show Act.put _ (some 32) _ = _
       simp only [puts_]
       rfl
     refine pu_ (i := 23) (N := 33) (v := ?_) (a' := ?_) (ar 43 24 []) rfl rfl (any_of HT_.out (by kernel_rfl)) ?_ ?_ ?_
     rotate_left
     · intro w'
       go_simp
       with_reducible rfl
     rotate_left
     · simp only [puts_]
       rfl
     refine pu_ (i := 24) (N := 34) (v := ?_) (a' := ?_) (ar 43 25 []) rfl rfl (any_of HT_.out (by kernel_rfl)) ?_ ?_ ?_
     rotate_left
     · intro w'
       go_simp
       with_reducible rfl
     rotate_left
     · simp only [puts_]
       rfl
     refine pu_ (i := 25) (N := 35) (v := ?_) (a' := ?_) (ar 43 26 []) rfl rfl (any_of HT_.out (by kernel_rfl)) ?_ ?_ ?_
     rotate_left
     · intro w'
       go_simp
       with_reducible rfl
     rotate_left
     · simp only [puts_]
       rfl
     refine pu_ (i := 26) (N := 36) (v := ?_) (a' := ?_) (ar 43 27 []) rfl rfl (any_of HT_.out (by kernel_rfl)) ?_ ?_ ?_
     rotate_left
     · intro w'
       go_simp
       with_reducible rfl
     rotate_left
     · simp only [puts_]
       rfl
     refine pu_ (i := 27) (N := 37) (v := ?_) (a' := ?_) (ar 43 28 []) rfl rfl (any_of HT_.out (by kernel_rfl)) ?_ ?_ ?_
     rotate_left
     · intro w'
       go_simp
       with_reducible rfl
     rotate_left
     · simp only [puts_]
       rfl
     refine pu_ (i := 28) (N := 38) (v := ?_) (a' := ?_) (ar 43 29 []) rfl rfl (any_of HT_.out (by kernel_rfl)) ?_ ?_ ?_
     rotate_left
     · intro w'
       go_simp
       with_reducible rfl
     rotate_left
     · simp only [puts_]
       rfl
     refine pu_ (i := 29) (N := 39) (v := ?_) (a' := ?_) (ar 43 30 []) rfl rfl (any_of HT_.out (by kernel_rfl)) ?_ ?_ ?_
     rotate_left
     · intro w'
       go_simp
       with_reducible rfl
     rotate_left
     · simp only [puts_]
       rfl
     refine pu_ (i := 30) (N := 40) (v := ?_) (a' := ?_) (ar 43 31 []) rfl rfl (any_of HT_.out (by kernel_rfl)) ?_ ?_ ?_
     rotate_left
     · intro w'
       go_simp
       with_reducible rfl
     rotate_left
     · simp only [puts_]
       rfl
     refine pu_ (i := 31) (N := 41) (v := ?_) (a' := ?_) (ar 43 32 []) rfl rfl (any_of HT_.out (by kernel_rfl)) ?_ ?_ ?_
     rotate_left
     · intro w'
       go_simp
       with_reducible rfl
     rotate_left
     · simp only [puts_]
       rfl
     refine pu_ (i := 32) (N := 42) (v := ?_) (a' := ?_) (ar 43 33 []) rfl rfl (any_of HT_.out (by kernel_rfl)) ?_ ?_ ?_
     rotate_left
     · intro w'
       go_simp
       with_reducible rfl
     rotate_left
     · simp only [puts_]
       rfl
     refine pu_ (i := 33) (N := 43) (v := ?_) (a' := ?_) (ar 43 34 []) rfl rfl (any_of HT_.out (by kernel_rfl)) ?_ ?_ ?_
     rotate_left
     · intro w'
       go_simp
       with_reducible rfl
     rotate_left
     · simp only [puts_]
       rfl
     refine pu_ (i := 35) (N := 45) (v := ?_) (a' := ?_) (ar 43 36 [34]) rfl rfl (any_of HT_.out (by kernel_rfl)) ?_ ?_ ?_
     rotate_left
     · intro w'
       go_simp
       with_reducible rfl
     rotate_left
     · simp only [puts_]
       rfl
     refine pu_ (i := 36) (N := 46) (v := ?_) (a' := ?_) (ar 43 37 [34]) rfl rfl (any_of HT_.out (by kernel_rfl)) ?_ ?_ ?_
     rotate_left
     · intro w'
       go_simp
       with_reducible rfl
     rotate_left
     · simp only [puts_]
       rfl
     refine pu_ (i := 37) (N := 47) (v := ?_) (a' := ?_) (ar 43 38 [34]) rfl rfl (any_of HT_.out (by kernel_rfl)) ?_ ?_ ?_
     rotate_left
     · intro w'
       go_simp
       with_reducible rfl
     rotate_left
     · simp only [puts_]
       rfl
     refine pu_ (i := 38) (N := 48) (v := ?_) (a' := ?_) (ar 43 39 [34]) rfl rfl (any_of HT_.out (by kernel_rfl)) ?_ ?_ ?_
     rotate_left
     · intro w'
       go_simp
       with_reducible rfl
     rotate_left
     · simp only [puts_]
       rfl
     refine tk_ (i := 34) (N := 44) (v := ?_) (a' := ?_) (ar 43 39 []) rfl rfl (take_ofW HT_.out HW_.out (by kernel_rfl)) ?_ hHeld ?_ ?_
     rotate_left
     · rintro w' ⟨s0, s1, s2, s3, s4, s5, s6, s7, s8, s9, s10, s11, s12, s13, s14, s15, s16, s17, s18, s19⟩
       go_simp
       with_reducible rfl
     rotate_left
     · simp only [puts_]
       rfl
     refine tk_ (i := 39) (N := 49) (v := ?_) (a' := ?_) (ar 43 40 []) rfl rfl (take_ofW HT_.out HW_.out (by kernel_rfl)) ?_ hHeld ?_ ?_
     rotate_left
     · rintro w' ⟨s0, s1, s2, s3, s4, s5, s6, s7, s8, s9, s10, s11, s12, s13, s14, s15, s16, s17, s18, s19⟩
       go_simp
       with_reducible rfl
     rotate_left
     · simp only [puts_]
       rfl
     refine pu_ (i := 40) (N := 50) (v := ?_) (a' := ?_) (ar 43 41 []) rfl rfl (any_of HT_.out (by kernel_rfl)) ?_ ?_ ?_
     rotate_left
     · intro w'
       go_simp
       with_reducible rfl
     rotate_left
     · simp only [puts_]
       rfl
     refine pu_ (i := 41) (N := 51) (v := ?_) (a' := ?_) (ar 43 42 []) rfl rfl (any_of HT_.out (by kernel_rfl)) ?_ ?_ ?_
     rotate_left
     · intro w'
       go_simp
       with_reducible rfl
     rotate_left
     · simp only [puts_]
       rfl
     refine pu_ (i := 42) (N := 52) (v := ?_) (a' := ?_) (ar 43 43 []) rfl rfl (any_of HT_.out (by kernel_rfl)) ?_ ?_ ?_
     rotate_left
     · intro w'
       go_simp
       with_reducible rfl
     rotate_left
     · simp only [puts_]
       rfl
     refine done_ (done_of HT_.out (by kernel_rfl)) ?_
     try go_wp2
     go_roundg k1
     case measure => have := HK1.out; omega
     case rel => exact ⟨(wrap64 (x3_1 + 1)), (by first | rfl | (simp; done) | (simp [*]; done)), H', ⟨by have := HK1.out; omega⟩, ⟨below_up HB.out⟩⟩
   rw [if_pos c14] at H
   have c14b0 : decide (((rd_T95 l0 x3_1).f0) ≤ ((rd_T95 l0 (ji11)).f0)) = true := decide_eq_true c14
   clear c14
   obtain rfl := Option.some.inj H
   try go_wp2
   have n0_ := Aside0.mk (below_drew1 HB.out)
   clear HB
   have HB := n0_
   clear n0_
   have p212 : 0 ≤ (x3_1 : Int) := of_decide_eq_true (by first | (with_reducible assumption) | assumption)
   have q212 : x3_1 < (l0.length : Int) := of_decide_eq_true (by first | (with_reducible assumption) | assumption)
   obtain ⟨ad212, e212, hx212_0, hx212_1, hx212_2, hx212_3⟩ := at_T95 HR0.out x3_1 p212 q212
   have hw212_3 := hx212_3
   have hw212_2 := hx212_2
   have hw212_1 := hx212_1
   have hw212_0 := hx212_0
   cases e212
   replace hx212_0 := (cel HB.out hx212_0 :)
   replace hx212_1 := (cel HB.out hx212_1 :)
   replace hx212_2 := (cel HB.out hx212_2 :)
   replace hx212_3 := (cel HB.out hx212_3 :)
   replace p212 := eq_true p212
   replace q212 := eq_true q212
   have p214 : 0 ≤ (x3_1 : Int) := of_decide_eq_true (by first | (with_reducible assumption) | assumption)
   have q214 : x3_1 < (l0.length : Int) := of_decide_eq_true (by first | (with_reducible assumption) | assumption)
   obtain ⟨ad214, e214, hx214_0, hx214_1, hx214_2, hx214_3⟩ := at_T95 HR0.out x3_1 p214 q214
   have hw214_3 := hx214_3
   have hw214_2 := hx214_2
   have hw214_1 := hx214_1
   have hw214_0 := hx214_0
   obtain rfl : ad212 = ad214 := (by injection e214)
   replace hx214_0 := (cel HB.out hx214_0 :)
   replace hx214_1 := (cel HB.out hx214_1 :)
   replace hx214_2 := (cel HB.out hx214_2 :)
   replace hx214_3 := (cel HB.out hx214_3 :)
   replace p214 := eq_true p214
   replace q214 := eq_true q214
   have p216 : 0 ≤ (x3_1 : Int) := of_decide_eq_true (by first | (with_reducible assumption) | assumption)
   have q216 : x3_1 < (l0.length : Int) := of_decide_eq_true (by first | (with_reducible assumption) | assumption)
   obtain ⟨ad216, e216, hx216_0, hx216_1, hx216_2, hx216_3⟩ := at_T95 HR0.out x3_1 p216 q216
   have hw216_3 := hx216_3
   have hw216_2 := hx216_2
   have hw216_1 := hx216_1
   have hw216_0 := hx216_0
   obtain rfl : ad212 = ad216 := (by injection e216)
   replace hx216_0 := (cel HB.out hx216_0 :)
   replace hx216_1 := (cel HB.out hx216_1 :)
   replace hx216_2 := (cel HB.out hx216_2 :)
   replace hx216_3 := (cel HB.out hx216_3 :)
   replace p216 := eq_true p216
   replace q216 := eq_true q216
   have p218 : 0 ≤ ((ji11) : Int) := of_decide_eq_true (by first | (with_reducible assumption) | assumption)
   have q218 : (ji11) < (l0.length : Int) := of_decide_eq_true (by first | (with_reducible assumption) | assumption)
   obtain ⟨ad218, e218, hx218_0, hx218_1, hx218_2, hx218_3⟩ := at_T95 HR0.out (ji11) p218 q218
   have hw218_3 := hx218_3
   have hw218_2 := hx218_2
   have hw218_1 := hx218_1
   have hw218_0 := hx218_0
   obtain rfl : ad212 = ad218 := (by injection e218)
   replace hx218_0 := (cel HB.out hx218_0 :)
   replace hx218_1 := (cel HB.out hx218_1 :)
   replace hx218_2 := (cel HB.out hx218_2 :)
   replace hx218_3 := (cel HB.out hx218_3 :)
   replace p218 := eq_true p218
   replace q218 := eq_true q218
   have p219 : 0 ≤ (x3_1 : Int) := of_decide_eq_true (by first | (with_reducible assumption) | assumption)
   have q219 : x3_1 < (l0.length : Int) := of_decide_eq_true (by first | (with_reducible assumption) | assumption)
   obtain ⟨ad219, e219, hx219_0, hx219_1, hx219_2, hx219_3⟩ := at_T95 HR0.out x3_1 p219 q219
   have hw219_3 := hx219_3
   have hw219_2 := hx219_2
   have hw219_1 := hx219_1
   have hw219_0 := hx219_0
   obtain rfl : ad212 = ad219 := (by injection e219)
   replace hx219_0 := (cel HB.out hx219_0 :)
   replace hx219_1 := (cel HB.out hx219_1 :)
   replace hx219_2 := (cel HB.out hx219_2 :)
   replace hx219_3 := (cel HB.out hx219_3 :)
   replace p219 := eq_true p219
   replace q219 := eq_true q219
   refine start_ (n := 43) (S := fun w' => w'.cell? (ad212.add ((x3_1).toNat * 4)) = some (.int .i64 ((rd_T95 l0 x3_1).f0)) ∧ w'.cell? ⟨(ad212.add ((x3_1).toNat * 4)).block, (ad212.add ((x3_1).toNat * 4)).off + 1, none⟩ = some (.int .i64 ((rd_T95 l0 x3_1).f1)) ∧ w'.cell? ⟨(ad212.add ((x3_1).toNat * 4)).block, (ad212.add ((x3_1).toNat * 4)).off + 2, none⟩ = some (.int .i64 ((rd_T95 l0 x3_1).f2)) ∧ w'.cell? ⟨(ad212.add ((x3_1).toNat * 4)).block, (ad212.add ((x3_1).toNat * 4)).off + 3, none⟩ = some (.bool ((rd_T95 l0 x3_1).f3)) ∧ w'.cell? (ad212.add ((x3_1).toNat * 4)) = some (.int .i64 ((rd_T95 l0 x3_1).f0)) ∧ w'.cell? ⟨(ad212.add ((x3_1).toNat * 4)).block, (ad212.add ((x3_1).toNat * 4)).off + 1, none⟩ = some (.int .i64 ((rd_T95 l0 x3_1).f1)) ∧ w'.cell? ⟨(ad212.add ((x3_1).toNat * 4)).block, (ad212.add ((x3_1).toNat * 4)).off + 2, none⟩ = some (.int .i64 ((rd_T95 l0 x3_1).f2)) ∧ w'.cell? ⟨(ad212.add ((x3_1).toNat * 4)).block, (ad212.add ((x3_1).toNat * 4)).off + 3, none⟩ = some (.bool ((rd_T95 l0 x3_1).f3)) ∧ w'.cell? (ad212.add ((x3_1).toNat * 4)) = some (.int .i64 ((rd_T95 l0 x3_1).f0)) ∧ w'.cell? ⟨(ad212.add ((x3_1).toNat * 4)).block, (ad212.add ((x3_1).toNat * 4)).off + 1, none⟩ = some (.int .i64 ((rd_T95 l0 x3_1).f1)) ∧ w'.cell? ⟨(ad212.add ((x3_1).toNat * 4)).block, (ad212.add ((x3_1).toNat * 4)).off + 2, none⟩ = some (.int .i64 ((rd_T95 l0 x3_1).f2)) ∧ w'.cell? ⟨(ad212.add ((x3_1).toNat * 4)).block, (ad212.add ((x3_1).toNat * 4)).off + 3, none⟩ = some (.bool ((rd_T95 l0 x3_1).f3)) ∧ w'.cell? (ad212.add (((ji11)).toNat * 4)) = some (.int .i64 ((rd_T95 l0 (ji11)).f0)) ∧ w'.cell? ⟨(ad212.add (((ji11)).toNat * 4)).block, (ad212.add (((ji11)).toNat * 4)).off + 1, none⟩ = some (.int .i64 ((rd_T95 l0 (ji11)).f1)) ∧ w'.cell? ⟨(ad212.add (((ji11)).toNat * 4)).block, (ad212.add (((ji11)).toNat * 4)).off + 2, none⟩ = some (.int .i64 ((rd_T95 l0 (ji11)).f2)) ∧ w'.cell? ⟨(ad212.add (((ji11)).toNat * 4)).block, (ad212.add (((ji11)).toNat * 4)).off + 3, none⟩ = some (.bool ((rd_T95 l0 (ji11)).f3)) ∧ w'.cell? (ad212.add ((x3_1).toNat * 4)) = some (.int .i64 ((rd_T95 l0 x3_1).f0)) ∧ w'.cell? ⟨(ad212.add ((x3_1).toNat * 4)).block, (ad212.add ((x3_1).toNat * 4)).off + 1, none⟩ = some (.int .i64 ((rd_T95 l0 x3_1).f1)) ∧ w'.cell? ⟨(ad212.add ((x3_1).toNat * 4)).block, (ad212.add ((x3_1).toNat * 4)).off + 2, none⟩ = some (.int .i64 ((rd_T95 l0 x3_1).f2)) ∧ w'.cell? ⟨(ad212.add ((x3_1).toNat * 4)).block, (ad212.add ((x3_1).toNat * 4)).off + 3, none⟩ = some (.bool ((rd_T95 l0 x3_1).f3))) (ds := []) (ar 43 0 []) (by kernel_rfl) rfl rfl ⟨((cel HB.out hw212_0 :)), ((cel HB.out hw212_1 :)), ((cel HB.out hw212_2 :)), ((cel HB.out hw212_3 :)), ((cel HB.out hw214_0 :)), ((cel HB.out hw214_1 :)), ((cel HB.out hw214_2 :)), ((cel HB.out hw214_3 :)), ((cel HB.out hw216_0 :)), ((cel HB.out hw216_1 :)), ((cel HB.out hw216_2 :)), ((cel HB.out hw216_3 :)), ((cel HB.out hw218_0 :)), ((cel HB.out hw218_1 :)), ((cel HB.out hw218_2 :)), ((cel HB.out hw218_3 :)), ((cel HB.out hw219_0 :)), ((cel HB.out hw219_1 :)), ((cel HB.out hw219_2 :)), ((cel HB.out hw219_3 :))⟩ (fun hHeld => ?_); refine with_tabW spec_AreCrew.tab4 spec_AreCrew.bits4 (fun HT_ HW_ => ?_)
   generalize wr.drew = w15 at HB hx212_0 hx212_1 hx212_2 hx212_3 hx214_0 hx214_1 hx214_2 hx214_3 hx216_0 hx216_1 hx216_2 hx216_3 hx218_0 hx218_1 hx218_2 hx218_3 hx219_0 hx219_1 hx219_2 hx219_3 hHeld ⊢
   refine pu_ (i := 0) (N := 10) (v := ?_) (a' := ?_) (ar 43 1 []) rfl rfl (any_of HT_.out (by kernel_rfl)) ?_ ?_ ?_
   rotate_left
   · intro w'
     go_simp
     with_reducible rfl
   rotate_left
   · simp only [puts_]
     rfl
   refine pu_ (i := 1) (N := 11) (v := ?_) (a' := ?_) (ar 43 2 []) rfl rfl (any_of HT_.out (by kernel_rfl)) ?_ ?_ ?_
   rotate_left
   · intro w'
     go_simp
     with_reducible rfl
   rotate_left
   · simp only [puts_]
     rfl
   refine pu_ (i := 2) (N := 12) (v := ?_) (a' := ?_) (ar 43 3 []) rfl rfl (any_of HT_.out (by kernel_rfl)) ?_ ?_ ?_
   rotate_left
   · intro w'
     go_simp
     with_reducible rfl
   rotate_left
   · simp only [puts_]
     rfl
   refine pu_ (i := 3) (N := 13) (v := ?_) (a' := ?_) (ar 43 4 []) rfl rfl (any_of HT_.out (by kernel_rfl)) ?_ ?_ ?_
   rotate_left
   · intro w'
     go_simp
     with_reducible rfl
   rotate_left
   · simp only [puts_]
     rfl
   refine tk_ (i := 4) (N := 14) (v := ?_) (a' := ?_) (ar 43 5 []) rfl rfl (take_ofW HT_.out HW_.out (by kernel_rfl)) ?_ hHeld ?_ ?_
   rotate_left
   · rintro w' ⟨s0, s1, s2, s3, s4, s5, s6, s7, s8, s9, s10, s11, s12, s13, s14, s15, s16, s17, s18, s19⟩
     go_simp
     with_reducible rfl
   rotate_left
   · simp only [puts_]
     rfl
   refine one_ (i := 5) (N := some 15) (ar 43 6 []) rfl rfl (one_of HT_.out (by kernel_rfl)) (by decide) (fun K hK => ?_)
   refine goes_ Try.func67 (by kernel_rfl) rfl #[.int .i64 ((rd_T95 l0 x3_1).f0), .int .i64 1, .int .i64 99] (by rfl) rfl rfl (by (try simp only [am_]); first | done | rfl) ?_
   with_reducible refine (spec_l1In.calls ((rd_T95 l0 x3_1).f0) 1 99 true _ A4.out).mono ?_
   rintro e w' ⟨rfl, ⟨nd, rfl⟩⟩
   refine ⟨_, rfl, ?_⟩
   refine hK.out _ _ ⟨((cel HB.out hw212_0 :)), ((cel HB.out hw212_1 :)), ((cel HB.out hw212_2 :)), ((cel HB.out hw212_3 :)), ((cel HB.out hw214_0 :)), ((cel HB.out hw214_1 :)), ((cel HB.out hw214_2 :)), ((cel HB.out hw214_3 :)), ((cel HB.out hw216_0 :)), ((cel HB.out hw216_1 :)), ((cel HB.out hw216_2 :)), ((cel HB.out hw216_3 :)), ((cel HB.out hw218_0 :)), ((cel HB.out hw218_1 :)), ((cel HB.out hw218_2 :)), ((cel HB.out hw218_3 :)), ((cel HB.out hw219_0 :)), ((cel HB.out hw219_1 :)), ((cel HB.out hw219_2 :)), ((cel HB.out hw219_3 :))⟩ (fun hHeld => ?_)
   clear hK K
   refine norm_ (a' := ?_) ?_ ?_
   rotate_left
   · show Act.put _ (some 15) _ = _
     simp only [puts_]
     rfl
   refine pu_ (i := 6) (N := 16) (v := ?_) (a' := ?_) (ar 43 7 []) rfl rfl (any_of HT_.out (by kernel_rfl)) ?_ ?_ ?_
   rotate_left
   · intro w'
     go_simp
     with_reducible rfl
   rotate_left
   · simp only [puts_]
     rfl
   refine pu_ (i := 7) (N := 17) (v := ?_) (a' := ?_) (ar 43 8 []) rfl rfl (any_of HT_.out (by kernel_rfl)) ?_ ?_ ?_
   rotate_left
   · intro w'
     go_simp
     with_reducible rfl
   rotate_left
   · simp only [puts_]
     rfl
   refine pu_ (i := 8) (N := 18) (v := ?_) (a' := ?_) (ar 43 9 []) rfl rfl (any_of HT_.out (by kernel_rfl)) ?_ ?_ ?_
   rotate_left
   · intro w'
     go_simp
     with_reducible rfl
   rotate_left
   · simp only [puts_]
     rfl
   refine pu_ (i := 9) (N := 19) (v := ?_) (a' := ?_) (ar 43 10 []) rfl rfl (any_of HT_.out (by kernel_rfl)) ?_ ?_ ?_
   rotate_left
   · intro w'
     go_simp
     with_reducible rfl
   rotate_left
   · simp only [puts_]
     rfl
   refine pu_ (i := 10) (N := 20) (v := ?_) (a' := ?_) (ar 43 11 []) rfl rfl (any_of HT_.out (by kernel_rfl)) ?_ ?_ ?_
   rotate_left
   · intro w'
     go_simp
     with_reducible rfl
   rotate_left
   · simp only [puts_]
     rfl
   refine pu_ (i := 11) (N := 21) (v := ?_) (a' := ?_) (ar 43 12 []) rfl rfl (any_of HT_.out (by kernel_rfl)) ?_ ?_ ?_
   rotate_left
   · intro w'
     go_simp
     with_reducible rfl
   rotate_left
   · simp only [puts_]
     rfl
   refine tk_ (i := 12) (N := 22) (v := ?_) (a' := ?_) (ar 43 13 []) rfl rfl (take_ofW HT_.out HW_.out (by kernel_rfl)) ?_ hHeld ?_ ?_
   rotate_left
   · rintro w' ⟨s0, s1, s2, s3, s4, s5, s6, s7, s8, s9, s10, s11, s12, s13, s14, s15, s16, s17, s18, s19⟩
     go_simp
     with_reducible rfl
   rotate_left
   · simp only [puts_]
     rfl
   refine one_ (i := 13) (N := some 23) (ar 43 14 []) rfl rfl (one_of HT_.out (by kernel_rfl)) (by decide) (fun K hK => ?_)
   refine goes_ Try.func67 (by kernel_rfl) rfl #[.int .i64 ((rd_T95 l0 x3_1).f1), .int .i64 0, .int .i64 100] (by rfl) rfl rfl (by (try simp only [am_]); first | done | rfl) ?_
   with_reducible refine (spec_l1In.calls ((rd_T95 l0 x3_1).f1) 0 100 true _ A6.out).mono ?_
   rintro e w' ⟨rfl, ⟨nd, rfl⟩⟩
   refine ⟨_, rfl, ?_⟩
   refine hK.out _ _ ⟨((cel HB.out hw212_0 :)), ((cel HB.out hw212_1 :)), ((cel HB.out hw212_2 :)), ((cel HB.out hw212_3 :)), ((cel HB.out hw214_0 :)), ((cel HB.out hw214_1 :)), ((cel HB.out hw214_2 :)), ((cel HB.out hw214_3 :)), ((cel HB.out hw216_0 :)), ((cel HB.out hw216_1 :)), ((cel HB.out hw216_2 :)), ((cel HB.out hw216_3 :)), ((cel HB.out hw218_0 :)), ((cel HB.out hw218_1 :)), ((cel HB.out hw218_2 :)), ((cel HB.out hw218_3 :)), ((cel HB.out hw219_0 :)), ((cel HB.out hw219_1 :)), ((cel HB.out hw219_2 :)), ((cel HB.out hw219_3 :))⟩ (fun hHeld => ?_)
   clear hK K
   refine norm_ (a' := ?_) ?_ ?_
   rotate_left
   · show Act.put _ (some 23) _ = _
     simp only [puts_]
     rfl
   refine pu_ (i := 14) (N := 24) (v := ?_) (a' := ?_) (ar 43 15 []) rfl rfl (any_of HT_.out (by kernel_rfl)) ?_ ?_ ?_
   rotate_left
   · intro w'
     go_simp
     with_reducible rfl
   rotate_left
   · simp only [puts_]
     rfl
   refine pu_ (i := 15) (N := 25) (v := ?_) (a' := ?_) (ar 43 16 []) rfl rfl (any_of HT_.out (by kernel_rfl)) ?_ ?_ ?_
   rotate_left
   · intro w'
     go_simp
     with_reducible rfl
   rotate_left
   · simp only [puts_]
     rfl
   refine pu_ (i := 16) (N := 26) (v := ?_) (a' := ?_) (ar 43 17 []) rfl rfl (any_of HT_.out (by kernel_rfl)) ?_ ?_ ?_
   rotate_left
   · intro w'
     go_simp
     with_reducible rfl
   rotate_left
   · simp only [puts_]
     rfl
   refine pu_ (i := 17) (N := 27) (v := ?_) (a' := ?_) (ar 43 18 []) rfl rfl (any_of HT_.out (by kernel_rfl)) ?_ ?_ ?_
   rotate_left
   · intro w'
     go_simp
     with_reducible rfl
   rotate_left
   · simp only [puts_]
     rfl
   refine pu_ (i := 18) (N := 28) (v := ?_) (a' := ?_) (ar 43 19 []) rfl rfl (any_of HT_.out (by kernel_rfl)) ?_ ?_ ?_
   rotate_left
   · intro w'
     go_simp
     with_reducible rfl
   rotate_left
   · simp only [puts_]
     rfl
   refine pu_ (i := 19) (N := 29) (v := ?_) (a' := ?_) (ar 43 20 []) rfl rfl (any_of HT_.out (by kernel_rfl)) ?_ ?_ ?_
   rotate_left
   · intro w'
     go_simp
     with_reducible rfl
   rotate_left
   · simp only [puts_]
     rfl
   refine pu_ (i := 20) (N := 30) (v := ?_) (a' := ?_) (ar 43 21 []) rfl rfl (any_of HT_.out (by kernel_rfl)) ?_ ?_ ?_
   rotate_left
   · intro w'
     go_simp
     with_reducible rfl
   rotate_left
   · simp only [puts_]
     rfl
   refine tk_ (i := 21) (N := 31) (v := ?_) (a' := ?_) (ar 43 22 []) rfl rfl (take_ofW HT_.out HW_.out (by kernel_rfl)) ?_ hHeld ?_ ?_
   rotate_left
   · rintro w' ⟨s0, s1, s2, s3, s4, s5, s6, s7, s8, s9, s10, s11, s12, s13, s14, s15, s16, s17, s18, s19⟩
     go_simp
     with_reducible rfl
   rotate_left
   · simp only [puts_]
     rfl
   refine one_ (i := 22) (N := some 32) (ar 43 23 []) rfl rfl (one_of HT_.out (by kernel_rfl)) (by decide) (fun K hK => ?_)
   refine goes_ Try.func67 (by kernel_rfl) rfl #[.int .i64 ((rd_T95 l0 x3_1).f2), .int .i64 1, .int .i64 10] (by rfl) rfl rfl (by (try simp only [am_]); first | done | rfl) ?_
   with_reducible refine (spec_l1In.calls ((rd_T95 l0 x3_1).f2) 1 10 true _ A8.out).mono ?_
   rintro e w' ⟨rfl, ⟨nd, rfl⟩⟩
   refine ⟨_, rfl, ?_⟩
   refine hK.out _ _ ⟨((cel HB.out hw212_0 :)), ((cel HB.out hw212_1 :)), ((cel HB.out hw212_2 :)), ((cel HB.out hw212_3 :)), ((cel HB.out hw214_0 :)), ((cel HB.out hw214_1 :)), ((cel HB.out hw214_2 :)), ((cel HB.out hw214_3 :)), ((cel HB.out hw216_0 :)), ((cel HB.out hw216_1 :)), ((cel HB.out hw216_2 :)), ((cel HB.out hw216_3 :)), ((cel HB.out hw218_0 :)), ((cel HB.out hw218_1 :)), ((cel HB.out hw218_2 :)), ((cel HB.out hw218_3 :)), ((cel HB.out hw219_0 :)), ((cel HB.out hw219_1 :)), ((cel HB.out hw219_2 :)), ((cel HB.out hw219_3 :))⟩ (fun hHeld => ?_)
   clear hK K
   refine norm_ (a' := ?_) ?_ ?_
   rotate_left
   · show Act.put _ (some 32) _ = _
     simp only [puts_]
     rfl
   refine pu_ (i := 23) (N := 33) (v := ?_) (a' := ?_) (ar 43 24 []) rfl rfl (any_of HT_.out (by kernel_rfl)) ?_ ?_ ?_
   rotate_left
   · intro w'
     go_simp
     with_reducible rfl
   rotate_left
   · simp only [puts_]
     rfl
   refine pu_ (i := 24) (N := 34) (v := ?_) (a' := ?_) (ar 43 25 []) rfl rfl (any_of HT_.out (by kernel_rfl)) ?_ ?_ ?_
   rotate_left
   · intro w'
     go_simp
     with_reducible rfl
   rotate_left
   · simp only [puts_]
     rfl
   refine pu_ (i := 25) (N := 35) (v := ?_) (a' := ?_) (ar 43 26 []) rfl rfl (any_of HT_.out (by kernel_rfl)) ?_ ?_ ?_
   rotate_left
   · intro w'
     go_simp
     with_reducible rfl
   rotate_left
   · simp only [puts_]
     rfl
   refine pu_ (i := 26) (N := 36) (v := ?_) (a' := ?_) (ar 43 27 []) rfl rfl (any_of HT_.out (by kernel_rfl)) ?_ ?_ ?_
   rotate_left
   · intro w'
     go_simp
     with_reducible rfl
   rotate_left
   · simp only [puts_]
     rfl
   refine pu_ (i := 27) (N := 37) (v := ?_) (a' := ?_) (ar 43 28 []) rfl rfl (any_of HT_.out (by kernel_rfl)) ?_ ?_ ?_
   rotate_left
   · intro w'
     go_simp
     with_reducible rfl
   rotate_left
   · simp only [puts_]
     rfl
   refine pu_ (i := 28) (N := 38) (v := ?_) (a' := ?_) (ar 43 29 []) rfl rfl (any_of HT_.out (by kernel_rfl)) ?_ ?_ ?_
   rotate_left
   · intro w'
     go_simp
     with_reducible rfl
   rotate_left
   · simp only [puts_]
     rfl
   refine pu_ (i := 29) (N := 39) (v := ?_) (a' := ?_) (ar 43 30 []) rfl rfl (any_of HT_.out (by kernel_rfl)) ?_ ?_ ?_
   rotate_left
   · intro w'
     go_simp
     with_reducible rfl
   rotate_left
   · simp only [puts_]
     rfl
   refine pu_ (i := 30) (N := 40) (v := ?_) (a' := ?_) (ar 43 31 []) rfl rfl (any_of HT_.out (by kernel_rfl)) ?_ ?_ ?_
   rotate_left
   · intro w'
     go_simp
     with_reducible rfl
   rotate_left
   · simp only [puts_]
     rfl
   refine pu_ (i := 31) (N := 41) (v := ?_) (a' := ?_) (ar 43 32 []) rfl rfl (any_of HT_.out (by kernel_rfl)) ?_ ?_ ?_
   rotate_left
   · intro w'
     go_simp
     with_reducible rfl
   rotate_left
   · simp only [puts_]
     rfl
   refine pu_ (i := 32) (N := 42) (v := ?_) (a' := ?_) (ar 43 33 []) rfl rfl (any_of HT_.out (by kernel_rfl)) ?_ ?_ ?_
   rotate_left
   · intro w'
     go_simp
     with_reducible rfl
   rotate_left
   · simp only [puts_]
     rfl
   refine pu_ (i := 33) (N := 43) (v := ?_) (a' := ?_) (ar 43 34 []) rfl rfl (any_of HT_.out (by kernel_rfl)) ?_ ?_ ?_
   rotate_left
   · intro w'
     go_simp
     with_reducible rfl
   rotate_left
   · simp only [puts_]
     rfl
   refine pu_ (i := 35) (N := 45) (v := ?_) (a' := ?_) (ar 43 36 [34]) rfl rfl (any_of HT_.out (by kernel_rfl)) ?_ ?_ ?_
   rotate_left
   · intro w'
     go_simp
     with_reducible rfl
   rotate_left
   · simp only [puts_]
     rfl
   refine pu_ (i := 36) (N := 46) (v := ?_) (a' := ?_) (ar 43 37 [34]) rfl rfl (any_of HT_.out (by kernel_rfl)) ?_ ?_ ?_
   rotate_left
   · intro w'
     go_simp
     with_reducible rfl
   rotate_left
   · simp only [puts_]
     rfl
   refine pu_ (i := 37) (N := 47) (v := ?_) (a' := ?_) (ar 43 38 [34]) rfl rfl (any_of HT_.out (by kernel_rfl)) ?_ ?_ ?_
   rotate_left
   · intro w'
     go_simp
     with_reducible rfl
   rotate_left
   · simp only [puts_]
     rfl
   refine pu_ (i := 38) (N := 48) (v := ?_) (a' := ?_) (ar 43 39 [34]) rfl rfl (any_of HT_.out (by kernel_rfl)) ?_ ?_ ?_
   rotate_left
   · intro w'
     go_simp
     with_reducible rfl
   rotate_left
   · simp only [puts_]
     rfl
   refine tk_ (i := 34) (N := 44) (v := ?_) (a' := ?_) (ar 43 39 []) rfl rfl (take_ofW HT_.out HW_.out (by kernel_rfl)) ?_ hHeld ?_ ?_
   rotate_left
   · rintro w' ⟨s0, s1, s2, s3, s4, s5, s6, s7, s8, s9, s10, s11, s12, s13, s14, s15, s16, s17, s18, s19⟩
     go_simp
     with_reducible rfl
   rotate_left
   · simp only [puts_]
     rfl
   refine tk_ (i := 39) (N := 49) (v := ?_) (a' := ?_) (ar 43 40 []) rfl rfl (take_ofW HT_.out HW_.out (by kernel_rfl)) ?_ hHeld ?_ ?_
   rotate_left
   · rintro w' ⟨s0, s1, s2, s3, s4, s5, s6, s7, s8, s9, s10, s11, s12, s13, s14, s15, s16, s17, s18, s19⟩
     go_simp
     with_reducible rfl
   rotate_left
   · simp only [puts_]
     rfl
   refine pu_ (i := 40) (N := 50) (v := ?_) (a' := ?_) (ar 43 41 []) rfl rfl (any_of HT_.out (by kernel_rfl)) ?_ ?_ ?_
   rotate_left
   · intro w'
     go_simp
     with_reducible rfl
   rotate_left
   · simp only [puts_]
     rfl
   refine pu_ (i := 41) (N := 51) (v := ?_) (a' := ?_) (ar 43 42 []) rfl rfl (any_of HT_.out (by kernel_rfl)) ?_ ?_ ?_
   rotate_left
   · intro w'
     go_simp
     with_reducible rfl
   rotate_left
   · simp only [puts_]
     rfl
   refine pu_ (i := 42) (N := 52) (v := ?_) (a' := ?_) (ar 43 43 []) rfl rfl (any_of HT_.out (by kernel_rfl)) ?_ ?_ ?_
   rotate_left
   · intro w'
     go_simp
     with_reducible rfl
   rotate_left
   · simp only [puts_]
     rfl
   refine done_ (done_of HT_.out (by kernel_rfl)) ?_
   try go_wp2
   go_ret
   exact ⟨by first | rfl | (simp [errW_none, errW_some] <;> rfl) | (simp only [← hji11]; first | rfl | (simp [errW_none, errW_some] <;> rfl)) | (simp [*, errW_none, errW_some] <;> rfl), below_up HB.out⟩

end Go.Proofs.Ytdgpnmbmnnmdcab.PFnExactNeedHome
