/- Contracts of Go functions: what print.sh prints, written shorter by low.py. -/
import Derived.Test.YtdgpnmbmnnmdcaaLow
import Derived.Test.YtdgpnmbmnnmdcaaUp
import Derived.Test.YtdgpnmbmnnmdcaaPFnRopesx0
import Derived.Test.YtdgpnmbmnnmdcaaPFnRopesx1
import Derived.Test.YtdgpnmbmnnmdcaaPFnRopesx2
import Derived.Test.YtdgpnmbmnnmdcaaPFnRopesx3
namespace Go.Proofs.Ytdgpnmbmnnmdcaa.PFnRopes
open Go.RowKit Go.Proofs.YtdgpnmbmnnmdcaaW.PrintWords Go.Proofs.YtdgpnmbmnnmdcaaW.PrintLast Go.Proofs.YtdgpnmbmnnmdcaaW.PrintMore
attribute [local go_sem] max2_int min2_int max_two min_two max_three min_three max_four min_four   -- for this text's walks alone
set_option linter.unusedVariables false
set_option linter.unusedSimpArgs false

/-! ### impl_RopeTeams: function 10 -/
mutual
def impl_RopeTeams.j0 : Nat → List Int → Bool → Option ((List (List Int)))
 | 0, _, _ => none
 | k + 1, x3, x15 => if x15 = true then (some ([] : List (List Int))) else (impl_RopeTeams.l0 k x3 (([] : List (List Int))))
def impl_RopeTeams.l0 : Nat → List Int → List (List Int) → Option ((List (List Int)))
 | 0, _, _ => none
 | k + 1, x3, x4 => if (x3.length : Int) > 0 then (if (x3.length : Int) = 4 then (if 2 ≤ (x3.length : Int) then ((impl_copyOf.f (x3.take 2)).bind fun t135 => (if x4.length < 5864062014805 then (impl_RopeTeams.l0 k (x3.drop (2 : Int).toNat) (x4 ++ [t135])) else (none))) else (none)) else (if (x3.length : Int) = 2 then (if 2 ≤ (x3.length : Int) then ((impl_copyOf.f (x3.take 2)).bind fun t148 => (if x4.length < 5864062014805 then (impl_RopeTeams.l0 k (x3.drop (2 : Int).toNat) (x4 ++ [t148])) else (none))) else (none)) else (if 3 ≤ (x3.length : Int) then ((impl_copyOf.f (x3.take 3)).bind fun t161 => (if x4.length < 5864062014805 then (impl_RopeTeams.l0 k (x3.drop (3 : Int).toNat) (x4 ++ [t161])) else (none))) else (none)))) else (some x4)
end
def impl_RopeTeams.f (k : Nat) (l0 : List (S68)) : Option ((List (List Int))) := (impl_Healthy.f k l0).bind fun t124 => ((impl_AreCrew.f k l0).bind fun t127 => (if t127 = true then (impl_RopeTeams.j0 k t124 (decide ((t124.length : Int) < 2))) else (impl_RopeTeams.j0 k t124 true)))
theorem impl_RopeTeams.mono_l : ∀ k, (∀ y0 y1, LeO (impl_RopeTeams.j0 k y0 y1) (impl_RopeTeams.j0 (k + 1) y0 y1)) ∧ (∀ y0 y1, LeO (impl_RopeTeams.l0 k y0 y1) (impl_RopeTeams.l0 (k + 1) y0 y1))
 | 0 => ⟨fun _ _ r h => by simp [impl_RopeTeams.j0] at h, fun _ _ r h => by simp [impl_RopeTeams.l0] at h⟩
 | k + 1 => by
  obtain ⟨ih0, ih1⟩ := impl_RopeTeams.mono_l k
  refine ⟨?_, ?_⟩
  · intro y0 y1
    unfold impl_RopeTeams.j0
    repeat' first
    | (with_reducible exact ih0 _ _)
    | (with_reducible exact ih1 _ _)
    | (with_reducible exact impl_AreCrew.mono _ _)
    | (with_reducible exact impl_Healthy.mono _ _)
    | (with_reducible exact LeO.refl _)
    | (with_reducible exact LeO.none _)
    | (with_reducible refine LeO.ite ?_ ?_)
    | (with_reducible refine LeO.bind ?_ (fun _ => ?_))
    | exact ih0 _ _
    | exact ih1 _ _
    | exact impl_AreCrew.mono _ _
    | exact impl_Healthy.mono _ _
    | exact LeO.none _
    | refine LeO.ite ?_ ?_
    | refine LeO.bind ?_ (fun _ => ?_)
  · intro y0 y1
    unfold impl_RopeTeams.l0
    repeat' first
    | (with_reducible exact ih0 _ _)
    | (with_reducible exact ih1 _ _)
    | (with_reducible exact impl_AreCrew.mono _ _)
    | (with_reducible exact impl_Healthy.mono _ _)
    | (with_reducible exact LeO.refl _)
    | (with_reducible exact LeO.none _)
    | (with_reducible refine LeO.ite ?_ ?_)
    | (with_reducible refine LeO.bind ?_ (fun _ => ?_))
    | exact ih0 _ _
    | exact ih1 _ _
    | exact impl_AreCrew.mono _ _
    | exact impl_Healthy.mono _ _
    | exact LeO.none _
    | refine LeO.ite ?_ ?_
    | refine LeO.bind ?_ (fun _ => ?_)
theorem impl_RopeTeams.mono : ∀ a0 k, LeO (impl_RopeTeams.f k a0) (impl_RopeTeams.f (k + 1) a0) := by
 intro a0 k
 obtain ⟨ih0, ih1⟩ := impl_RopeTeams.mono_l k
 unfold impl_RopeTeams.f
 repeat' first
  | (with_reducible exact ih0 _ _)
  | (with_reducible exact ih1 _ _)
  | (with_reducible exact impl_AreCrew.mono _ _)
  | (with_reducible exact impl_Healthy.mono _ _)
  | (with_reducible exact LeO.refl _)
  | (with_reducible exact LeO.none _)
  | (with_reducible refine LeO.ite ?_ ?_)
  | (with_reducible refine LeO.bind ?_ (fun _ => ?_))
  | exact ih0 _ _
  | exact ih1 _ _
  | exact impl_AreCrew.mono _ _
  | exact impl_Healthy.mono _ _
  | exact LeO.none _
  | refine LeO.ite ?_ ?_
  | refine LeO.bind ?_ (fun _ => ?_)
def impl_RopeTeams.T9 : Bool × List (List Nat × List Nat) := (true, [([], []), ([], []), ([], []), ([1, 2], [1, 2]), ([3], [3]), ([4], [4]), ([0, 5, 4], [0, 5]), ([], []), ([], []), ([7, 8], [7, 8]), ([6, 6, 0, 1, 2, 3, 4, 5, 6], [0, 6]), ([9, 10, 0, 1, 2, 3, 4, 5, 6, 7, 8, 9, 10], [1, 7, 9])])
def impl_RopeTeams.B9 : List Nat := [0, 0, 0, 6, 14, 30, 63, 0, 0, 384, 127, 2047]
theorem impl_RopeTeams.tab9 : rtab .any (opsOf Try.f10 9) = impl_RopeTeams.T9 := by kernel_rfl
theorem impl_RopeTeams.bits9 : waitsOk impl_RopeTeams.T9.2 impl_RopeTeams.B9 = true := by kernel_rfl
set_option maxHeartbeats 8000000 in
set_option maxRecDepth 100000 in
theorem impl_RopeTeams.calls (k : Nat) (A0 : Option Addr) (c0 : Nat) (l0 : List (S68)) (r : List (List Int)) (w : World) (hr0 : Kd.C k68 w A0 l0.length l0) (hc0 : l0.length ≤ c0) (h : impl_RopeTeams.f k l0 = some r) :
 Calls Try.prog 10 #[.slice A0 l0.length c0] w fun e w' => ∃ v0_ : Value, e = .returned (v0_) ∧ Kd.S (Kd.slice 3 (Kd.int .i64)) 36 w' w.heap.size (fun _ => True) v0_ r ∧ Below w.heap.size w w' := by
 have HR0 := Aside0.mk hr0
 have HC0 := Aside0.mk hc0
 clear hr0 hc0
 have HB := Aside0.mk (Below.refl w.heap.size w)
 have H : ((impl_Healthy.f k l0).bind fun t124 => ((impl_AreCrew.f k l0).bind fun t127 => (if t127 = true then (impl_RopeTeams.j0 k t124 (decide ((t124.length : Int) < 2))) else (impl_RopeTeams.j0 k t124 true)))) = some r := h
 clear h
 replace H := Option.bind_eq_some_iff.mp H
 obtain ⟨t124, A20, H⟩ := H
 have A2 := Aside0.mk A20
 clear A20
 have HC3 := Aside0.mk H
 clear H
 go_enter Try.func10, Try.ntmps10
 go_upto_region 2 with (first | ((with_reducible refine gate_callee (f := 20) rfl ?_); refine goesL_ (some 7) rfl rfl Try.func20 (by kernel_rfl) rfl #[.slice A0 l0.length c0] rfl (by (try simp only [am_]); first | done | rfl) ?_; (with_reducible refine (impl_Healthy.calls k _ _ l0 t124 _ ?side1 ?side2 A2.out).mono ?_); (case side1 => exact Kd.C_up HR0.out); (case side2 => exact HC0.out); rintro e w4 ⟨v125, rfl, ho0, hb⟩; refine ⟨_, rfl, ?_⟩; have n0_ := Aside0.mk (Kd.R_lower ho0 (below_size (below_up HB.out))); have n1_ := Aside0.mk (below_step (below_up HB.out) hb); have HO126 := n0_; replace HB := n1_; clear n0_ n1_; (try clear hb); (try clear hb2); (try clear hk); (try clear hi); (try clear ho0)))
 (try simp only [Act.put, List.setIfInBounds_toArray, List.set_cons_zero, List.set_cons_succ])
 go_cut [15] (fun v15 wc => ∃ (kq : Nat) (x15_2 : Bool), v15 = .bool x15_2 ∧ Aside0 (impl_RopeTeams.j0 kq t124 x15_2 = some r) ∧ Aside0 (kq ≤ k) ∧ Aside0 (Kd.Q (Kd.int .i64) 3 wc w.heap.size (fun _ => True) v125 t124) ∧ Aside0 (Below w.heap.size w wc))
 case first =>
  have H := HC3.out
  clear HC3
  replace H := Option.bind_eq_some_iff.mp H
  obtain ⟨t127, A50, H⟩ := H
  have A5 := Aside0.mk A50
  clear A50
  by_cases c6 : t127 = true
  rotate_left
  · replace c6 := Bool.eq_false_iff.mpr c6
    subst c6
    rw [if_neg (show ¬ (false = true) by decide)] at H
    have H' := Aside0.mk H
    clear H
    go_wp2_with (first | ((with_reducible refine gate_callee (f := 23) rfl ?_); refine goesL_ (some 9) rfl rfl Try.func23 (by kernel_rfl) rfl #[.slice A0 l0.length c0] rfl (by (try simp only [am_]); first | done | rfl) ?_; (with_reducible refine (impl_AreCrew.calls k _ _ l0 false _ ?side1 ?side2 A5.out).mono ?_); (case side1 => exact (Kd.C_below HR0.out (below_up HB.out))); (case side2 => exact HC0.out); rintro e w9 ⟨rfl, hb⟩; refine ⟨_, rfl, ?_⟩; have n0_ := Aside0.mk (Kd.R_below (Kd.R_up HO126.out) hb); have n1_ := Aside0.mk (below_step (below_up HB.out) hb); replace HO126 := n0_; replace HB := n1_; clear n0_ n1_; (try clear hb); (try clear hb2); (try clear hk); (try clear hi)))
    go_meet
    case rel => exact ⟨_, (true), (by first | rfl | (simp; done) | (simp [*]; done)), H', ⟨by first | omega | exact Nat.le_refl _⟩, ⟨Kd.Q_of_R (by (with_reducible repeat (first | apply Kd.R_alloc | apply Kd.R_drewN | apply Kd.R_drew)); exact HO126.out)⟩, ⟨below_up HB.out⟩⟩
  subst c6
  rw [if_pos rfl] at H
  have H' := Aside0.mk H
  clear H
  go_wp2_with (first | ((with_reducible refine gate_callee (f := 23) rfl ?_); refine goesL_ (some 9) rfl rfl Try.func23 (by kernel_rfl) rfl #[.slice A0 l0.length c0] rfl (by (try simp only [am_]); first | done | rfl) ?_; (with_reducible refine (impl_AreCrew.calls k _ _ l0 true _ ?side1 ?side2 A5.out).mono ?_); (case side1 => exact (Kd.C_below HR0.out (below_up HB.out))); (case side2 => exact HC0.out); rintro e w7 ⟨rfl, hb⟩; refine ⟨_, rfl, ?_⟩; have n0_ := Aside0.mk (Kd.R_below (Kd.R_up HO126.out) hb); have n1_ := Aside0.mk (below_step (below_up HB.out) hb); replace HO126 := n0_; replace HB := n1_; clear n0_ n1_; (try clear hb); (try clear hb2); (try clear hk); (try clear hi); obtain ⟨Ao8, co8, eo8⟩ := Kd.R_slice HO126.out; subst eo8))
  go_meet
  case rel => exact ⟨_, (decide ((t124.length : Int) < 2)), (by first | rfl | (simp; done) | (simp [*]; done)), H', ⟨by first | omega | exact Nat.le_refl _⟩, ⟨Kd.Q_of_R (by (with_reducible repeat (first | apply Kd.R_alloc | apply Kd.R_drewN | apply Kd.R_drew)); exact HO126.out)⟩, ⟨below_up HB.out⟩⟩
 case rest =>
  clear HC3
  try clear c1
  try clear c2
  try clear p2
  try clear c6
  obtain ⟨kq, x15_2, rfl, HA, HJ2, HO_3, HB⟩ := hcut
  cases kq with
  | zero => exact absurd HA.out (by simp [impl_RopeTeams.j0])
  | succ kj2 =>
   have H := HA.out
   clear HA
   simp only [impl_RopeTeams.j0] at H
   by_cases c10 : x15_2 = true
   · subst c10
     rw [if_pos rfl] at H
     obtain rfl := Option.some.inj H
     go_wp2
     go_ret
     exact ⟨_, by first | rfl | (simp [errW_none, errW_some] <;> rfl) | (simp [*, errW_none, errW_some] <;> rfl), by first | exact Kd.S_nil _ _ _ _ _ | exact Kd.N_nil _ _ _ _ _ | exact Kd.V_nil _ _ _ _ _ | exact Kd.Q_nil _ _ _ _ _ | exact Kd.R_nil _ _ _ _ _, below_up HB.out⟩
   replace c10 := Bool.eq_false_iff.mpr c10
   subst c10
   rw [if_neg (show ¬ (false = true) by decide)] at H
   obtain ⟨y128, hy128⟩ : ∃ y_ : List (List Int), y_ = (([] : List (List Int))) := ⟨_, rfl⟩
   replace H : (impl_RopeTeams.l0 kj2 t124 y128) = some r := by first | (rw [hy128]; with_reducible exact H) | (have H2_ := (Option.bind_some _ _).symm.trans H; rw [hy128]; with_reducible exact H2_) | (have H2_ := (Option.bind_some _ _).symm.trans H; with_reducible exact H2_) | with_reducible exact H | (rw [hy128]; exact H) | exact H
   have Ny128 := Aside0.mk hy128
   clear hy128
   have H' := Aside0.mk H
   clear H
   go_wp2_with (first | ((with_reducible refine gate_dst (N := 16) rfl ?_); (try (refine gate_guard (by rfl) ?_; dsimp only)); refine Kd.S_lit (Kd.slice 3 (Kd.int .i64)) _ 36 ?hg (N := 16) ?hd (xs := ([] : List (List Int))) (inner := []) (ok := fun _ => True) (okp := fun _ => True) ?hr ?hp (fun _ hk => hk) trivial (Below.refl _ _) (Nat.le_refl _) (by simp) ?_; (case hd => rfl); (case hg => rfl); (case hr => first | (go_simp; done) | (go_simp; rfl)); (case hp => exact (Reps.none _ _)); intro v129 w11 ho12 hb hg_ hnew_; clear hg_ hnew_; (first | rw [← Ny128.out] at ho12 | (simp only [Int.reduceToNat] at ho12; rw [← Ny128.out] at ho12)); have n0_ := Aside0.mk (Kd.Q_below (Kd.Q_up HO_3.out) hb); have n1_ := Aside0.mk (Kd.S_lower (Kd.S_new' ho12 (Kd.Q_lt (Kd.Q_up HO_3.out))) (below_size (below_up HB.out))); have n2_ := Aside0.mk (below_step (below_up HB.out) hb); replace HO_3 := n0_; have HO130 := n1_; replace HB := n2_; clear n0_ n1_ n2_; clear hb ho12))
   go_loopg [3, 4] kj2 (fun kq v3 v4 w' => ∃ (x3_2 : List Int) (x4_2 : List (List Int)), Aside0 (impl_RopeTeams.l0 kq x3_2 x4_2 = some r) ∧ Aside0 (kq ≤ kj2) ∧ Aside0 (Kd.Q (Kd.int .i64) 3 w' w.heap.size (fun _ => True) v3 x3_2) ∧ Aside0 (Kd.S (Kd.slice 3 (Kd.int .i64)) 36 w' w.heap.size (fun k_ => some k_ ≠ (v3 : Value).ownBlock) v4 x4_2) ∧ Aside0 (Below w.heap.size w w'))
   case atStart => exact ⟨(t124), (y128), H', ⟨Nat.le_refl _⟩, ⟨by (with_reducible repeat (first | apply Kd.Q_alloc | apply Kd.Q_drewN | apply Kd.Q_drew)); exact HO_3.out⟩, ⟨by (with_reducible repeat (first | apply Kd.S_alloc | apply Kd.S_drewN | apply Kd.S_drew)); exact Kd.S_mono HO130.out (fun _ hk => hk.2)⟩, ⟨below_up HB.out⟩⟩
   case round =>
    clear H'
    try clear c1
    try clear c2
    try clear p2
    try clear c6
    try clear c10
    try clear p2
    obtain ⟨x3_2, x4_2, HA, HK2, HO_3, HO_4, HB⟩ := hrel
    cases gk with
    | zero => exact absurd HA.out (by simp [impl_RopeTeams.l0])
    | succ k2 =>
     have H := HA.out
     clear HA
     simp only [impl_RopeTeams.l0] at H
     by_cases c13 : (x3_2.length : Int) > 0
     rotate_left
     · rw [if_neg c13] at H
       have c13b0 : decide (0 < (x3_2.length : Int)) = false := decide_eq_false c13
       have c13b1 : decide (0 < x3_2.length) = false := decide_eq_false (by omega)
       clear c13
       obtain rfl := Option.some.inj H
       obtain ⟨Ao49, co49, eo49, _⟩ := Kd.Q_slice HO_3.out
       subst eo49
       go_wp2
       go_ret
       exact ⟨_, by first | rfl | (simp [errW_none, errW_some] <;> rfl) | (simp [*, errW_none, errW_some] <;> rfl), by (with_reducible repeat (first | apply Kd.S_alloc | apply Kd.S_drewN | apply Kd.S_drew)); exact Kd.S_mono HO_4.out (fun _ hk => trivial), below_up HB.out⟩
     rw [if_pos c13] at H
     have c13b0 : decide (0 < (x3_2.length : Int)) = true := decide_eq_true c13
     have c13b1 : decide (0 < x3_2.length) = true := decide_eq_true (by omega)
     clear c13
     by_cases c14 : (x3_2.length : Int) = 4
     · rw [if_pos c14] at H
       have c14b0 : ((x3_2.length : Int) == 4) = true := beq_iff_eq.mpr c14
       have c14b1 : ((x3_2.length : Int) != 4) = false := bne_eq_false_iff_eq.mpr c14
       clear c14
       by_cases c15 : 2 ≤ (x3_2.length : Int)
       rotate_left
       · rw [if_neg c15] at H
         exact absurd H (by simp)
       rw [if_pos c15] at H
       have c15b0 := eq_true c15
       have c15b1 : decide (2 ≤ (x3_2.length : Int)) = true := decide_eq_true c15
       clear c15
       obtain ⟨y131, hy131⟩ : ∃ y_ : List Int, y_ = (x3_2.take 2) := ⟨_, rfl⟩
       replace H : ((impl_copyOf.f y131).bind fun t135 => (if x4_2.length < 5864062014805 then (impl_RopeTeams.l0 k2 (x3_2.drop (2 : Int).toNat) (x4_2 ++ [t135])) else (none))) = some r := by first | (rw [hy131]; with_reducible exact H) | (have H2_ := (Option.bind_some _ _).symm.trans H; rw [hy131]; with_reducible exact H2_) | (have H2_ := (Option.bind_some _ _).symm.trans H; with_reducible exact H2_) | with_reducible exact H | (rw [hy131]; exact H) | exact H
       have Ny131 := Aside0.mk hy131
       clear hy131
       replace H := Option.bind_eq_some_iff.mp H
       obtain ⟨t135, A160, H⟩ := H
       have A16 := Aside0.mk A160
       clear A160
       by_cases c17 : x4_2.length < 5864062014805
       rotate_left
       · rw [if_neg c17] at H
         exact absurd H (by simp)
       rw [if_pos c17] at H
       have LMc17 := Aside0.mk c17
       clear c17
       obtain ⟨y138, hy138⟩ : ∃ y_ : List (List Int), y_ = (x4_2 ++ [t135]) := ⟨_, rfl⟩
       replace H : (impl_RopeTeams.l0 k2 (x3_2.drop (2 : Int).toNat) y138) = some r := by first | (rw [hy138]; with_reducible exact H) | (have H2_ := (Option.bind_some _ _).symm.trans H; rw [hy138]; with_reducible exact H2_) | (have H2_ := (Option.bind_some _ _).symm.trans H; with_reducible exact H2_) | with_reducible exact H | (rw [hy138]; exact H) | exact H
       have Ny138 := Aside0.mk hy138
       clear hy138
       have c18b0 := eq_true (of_decide_eq_true (by first | (with_reducible assumption) | assumption) : 2 ≤ (x3_2.length : Int))
       obtain ⟨y141, hy141⟩ : ∃ y_ : List Int, y_ = (x3_2.drop (2 : Int).toNat) := ⟨_, rfl⟩
       replace H : (impl_RopeTeams.l0 k2 y141 y138) = some r := by first | (rw [hy141]; with_reducible exact H) | (have H2_ := (Option.bind_some _ _).symm.trans H; rw [hy141]; with_reducible exact H2_) | (have H2_ := (Option.bind_some _ _).symm.trans H; with_reducible exact H2_) | with_reducible exact H | (rw [hy141]; exact H) | exact H
       have Ny141 := Aside0.mk hy141
       clear hy141
       have H' := Aside0.mk H
       clear H
       obtain ⟨Ao19, co19, eo19, _⟩ := Kd.Q_slice HO_3.out
       subst eo19
       try go_wp2
       have n0_ := Aside0.mk (Kd.Q_drew HO_3.out)
       have n1_ := Aside0.mk (Kd.S_drew HO_4.out)
       have n2_ := Aside0.mk (below_drew1 HB.out)
       clear HO_3
       clear HO_4
       clear HB
       have HO_3 := n0_
       have HO_4 := n1_
       have HB := n2_
       clear n0_ n1_ n2_
       have q21 : (2 : Int) ≤ ((x3_2.length : Int) : Int) := of_decide_eq_true (by first | (with_reducible assumption) | assumption)
       obtain ⟨i021, hi021, _, hsz21, _⟩ := info_parts info3
       have hroom21 : x3_2.length ≤ co19 := (Kd.Q_reads' HO_3.out).2.1
       have hC21 : Kd.C (Kd.int .i64) _ Ao19 x3_2.length x3_2 := (Kd.Q_reads' HO_3.out).2.2
       have hcut21 := cut_to (P := Try.prog) 36 3 .i64 Try.underlying36 hi021 Ao19 x3_2.length co19 2 (by omega) q21 hroom21
       have hr21 := Kd.C_take (m := 2) hC21 (by omega)
       have hy21 : y131.length = (2 : Int).toNat := (by rw [Ny131.out, List.length_take]; omega)
       rw [← Ny131.out] at hr21
       rw [← hy21] at hcut21
       have HR134 := Aside0.mk hr21
       have HC134 := Aside0.mk (show y131.length ≤ co19 from by omega)
       clear hr21 hC21 hroom21 hi021 hsz21
       have KY21 := Aside0.mk hy21
       clear hy21
       have KL21 := Aside0.mk (show 2 ≤ x3_2.length from by omega)
       replace q21 := eq_true q21
       have q22 : (2 : Int) ≤ ((x3_2.length : Int) : Int) := of_decide_eq_true (by first | (with_reducible assumption) | assumption)
       obtain ⟨i022, hi022, _, hsz22, _⟩ := info_parts info3
       have hcut22 := cut_from (P := Try.prog) 36 3 .i64 Try.underlying36 hi022 1 hsz22 Ao19 x3_2.length co19 2 (by omega) q22
       have hr22 := Kd.Q_drop (k := (2 : Int).toNat) HO_3.out (by omega)
       obtain ⟨A22, hA22⟩ : ∃ A1, A1 = (if co19 = (2 : Int).toNat then Ao19 else (Ao19 : Option Addr).map (·.add ((2 : Int).toNat * 1))) := ⟨_, rfl⟩
       obtain ⟨c22, hc22⟩ : ∃ c1, c1 = co19 - (2 : Int).toNat := ⟨_, rfl⟩
       have hy22 : y141.length = x3_2.length - (2 : Int).toNat := (by rw [Ny141.out, List.length_drop])
       rw [← Ny141.out] at hr22
       rw [← hy22, ← hA22, ← hc22] at hcut22
       replace hr22 : Kd.Q (Kd.int .i64) 3 _ w.heap.size (fun _ => True) (.slice A22 y141.length c22) y141 := (by rw [hA22, hc22, hy22]; exact hr22)
       have HE22 : Aside0 ((Value.slice A22 y141.length c22).ownBlock = (.slice Ao19 x3_2.length co19 : Value).ownBlock) := ⟨by rw [hA22]; split <;> (cases (Ao19 : Option Addr) <;> rfl)⟩
       clear hy22 hi022 hsz22 HO_3 hA22 hc22
       have HO143 := Aside0.mk hr22
       clear hr22
       replace q22 := eq_true q22
       have n_ := Aside0.mk (Kd.S_mono (ok' := fun k_ => some k_ ≠ (.slice A22 y141.length c22 : Value).ownBlock) HO_4.out (fun k_ hk => (by rw [HE22.out]; exact hk)))
       clear HO_4
       have HO_4 := n_
       clear n_
       refine start_ (n := 12) (S := fun w' => True) (ds := []) (ar 12 0 []) (by kernel_rfl) rfl rfl trivial (fun hHeld => ?_); refine with_tabW impl_RopeTeams.tab9 impl_RopeTeams.bits9 (fun HT_ HW_ => ?_)
       generalize wr.drew = w20 at HO_3 HO_4 HB HO143 HR134 hHeld ⊢
       refine pu_ (i := 0) (N := 28) (v := ?_) (a' := ?_) (ar 12 1 []) rfl rfl (any_of HT_.out (by kernel_rfl)) ?_ ?_ ?_
       rotate_left
       · intro w'
         go_simp
         with_reducible rfl
       rotate_left
       · simp only [puts_]
         rfl
       refine pu_ (i := 1) (N := 29) (v := ?_) (a' := ?_) (ar 12 2 []) rfl rfl (any_of HT_.out (by kernel_rfl)) ?_ ?_ ?_
       rotate_left
       · intro w'
         go_simp
         with_reducible rfl
       rotate_left
       · simp only [puts_]
         rfl
       refine pu_ (i := 2) (N := 30) (v := ?_) (a' := ?_) (ar 12 3 []) rfl rfl (any_of HT_.out (by kernel_rfl)) ?_ ?_ ?_
       rotate_left
       · intro w'
         go_simp
         with_reducible rfl
       rotate_left
       · simp only [puts_]
         rfl
       refine pu_ (i := 3) (N := 31) (v := ?_) (a' := ?_) (ar 12 4 []) rfl rfl (any_of HT_.out (by kernel_rfl)) ?_ ?_ ?_
       rotate_left
       · intro w'
         go_simp
         with_reducible rfl
       rotate_left
       · simp only [puts_]
         rfl
       refine pu_ (i := 7) (N := 35) (v := ?_) (a' := ?_) (ar 12 8 [4, 5, 6]) rfl rfl (any_of HT_.out (by kernel_rfl)) ?_ ?_ ?_
       rotate_left
       · intro w'
         go_simp
         with_reducible rfl
       rotate_left
       · simp only [puts_]
         rfl
       refine pu_ (i := 8) (N := 36) (v := ?_) (a' := ?_) (ar 12 9 [4, 5, 6]) rfl rfl (any_of HT_.out (by kernel_rfl)) ?_ ?_ ?_
       rotate_left
       · intro w'
         go_simp
         with_reducible rfl
       rotate_left
       · simp only [puts_]
         rfl
       refine pu_ (i := 9) (N := 37) (v := ?_) (a' := ?_) (ar 12 10 [4, 5, 6]) rfl rfl (any_of HT_.out (by kernel_rfl)) ?_ ?_ ?_
       rotate_left
       · intro w'
         go_simp
         with_reducible rfl
       rotate_left
       · simp only [puts_]
         rfl
       refine one_ (i := 4) (N := some 32) (ar 12 10 [5, 6]) rfl rfl (one_of HT_.out (by kernel_rfl)) (by decide) (fun K hK => ?_)
       refine goes_ Try.func46 (by kernel_rfl) rfl #[.slice Ao19 y131.length co19] (by rfl) rfl rfl (by (try simp only [am_]); first | done | rfl) ?_
       with_reducible refine (impl_copyOf.calls _ _ y131 t135 _ ?side1 ?side2 A16.out).mono ?_
       (case side1 => repeat (first | exact (by repeat (first | (with_reducible exact HR134.out) | (with_reducible refine Kd.C_alloc ?_ _) | (with_reducible refine Kd.C_drewN ?_ _) | (with_reducible refine Kd.C_drew ?_) | exact HR134.out)) | (with_reducible refine Kd.C_alloc ?_ _) | (with_reducible refine Kd.C_drewN ?_ _) | (with_reducible refine Kd.C_drew ?_)))
       (case side2 => exact HC134.out)
       rintro e w23 ⟨v136, rfl, ho0, hb⟩
       refine ⟨_, rfl, ?_⟩
       have n0_ := Aside0.mk (Kd.Q_elder' (Kd.Q_up HO143.out) (Kd.R_base ho0) hb)
       have n1_ := Aside0.mk (Kd.S_elder' (Kd.S_up HO_4.out) (Kd.R_base ho0) hb)
       have n2_ := Aside0.mk (Kd.R_lower (Kd.R_new' ho0 (Kd.Q_lt (Kd.Q_up HO143.out))) (below_size (below_up HB.out)))
       have n3_ := Aside0.mk (Kd.C_below (by repeat (first | (with_reducible exact HR134.out) | (with_reducible refine Kd.C_alloc ?_ _) | (with_reducible refine Kd.C_drewN ?_ _) | (with_reducible refine Kd.C_drew ?_) | exact HR134.out)) hb)
       have n4_ := Aside0.mk (below_step (below_up HB.out) hb)
       clear HO143
       clear HO_4
       clear HR134
       clear HB
       have HO143 := n0_
       have HO_4 := n1_
       have HO137 := n2_
       have HR134 := n3_
       have HB := n4_
       clear n0_ n1_ n2_ n3_ n4_
       (try clear hb)
       (try clear hb2)
       (try clear hk)
       (try clear hi)
       (try clear ho0)
       obtain ⟨Ao25, co25, eo25⟩ := Kd.R_slice HO137.out
       (first | subst eo25 | (injection eo25 with f1_ f2_ f3_; have f4_ := f1_.symm; have f5_ := f3_.symm; clear f1_ f2_ f3_; subst f4_; subst f5_))
       refine hK.out _ _ trivial (fun hHeld => ?_)
       clear hK K
       refine norm_ (a' := ?_) ?_ ?_
       rotate_left
       · show Act.put _ (some 32) _ = _
         simp only [puts_]
         rfl
       refine one_ (i := 5) (N := some 33) (ar 12 10 [6]) rfl rfl (one_of HT_.out (by kernel_rfl)) (by decide) (fun K hK => ?_)
       refine value_ (w1 := ?_) (v := ?_) (by rfl) rfl ?_ ?_
       rotate_left 2
       · go_simp
         constructor
         · rfl
         · rfl
       refine hK.out _ _ trivial (fun hHeld => ?_)
       clear hK K
       refine norm_ (a' := ?_) ?_ ?_
       rotate_left
       · show Act.put _ (some 33) _ = _
         simp only [puts_]
         rfl
       refine one_ (i := 6) (N := some 34) (ar 12 10 []) rfl rfl (one_of HT_.out (by kernel_rfl)) (by decide) (fun K hK => ?_)
       refine Kd.S_append_step (Kd.slice 3 (Kd.int .i64)) (w0 := w) w.heap.size (by rfl) (.tmp 28) (.tmp 33) 24 36 (.slice none 0 0) 24 rfl Try.underlying24 info36 rfl (by decide) (by omega) u4 x4_2 t135 [.slice Ao25 t135.length co25] (fun k_ => some k_ ≠ (.slice A22 y141.length c22 : Value).ownBlock) (fun k_ => some k_ = (.slice Ao25 t135.length co25 : Value).ownBlock) rfl rfl ?aP (fun k_ hk_ => ((Kd.R_mono (ok' := fun k_ => ((fun k_ => some k_ ≠ (.slice A22 y141.length c22 : Value).ownBlock)) k_ ∧ some k_ ≠ (u4 : Value).ownBlock) (Kd.R_apart' (HO137.out) (Kd.S_typed HO_4.out) (by decide)) (fun k_ hk => ⟨hk.1.2, hk.2⟩))).1 k_ hk_.symm) ?aF ?aO ?aB ?aS ?aL ?_
       (case aP => exact Kd.M_row (Kd.R_mono (Kd.R_tight rfl (Kd.R_mono (ok' := fun k_ => ((fun k_ => some k_ ≠ (.slice A22 y141.length c22 : Value).ownBlock)) k_ ∧ some k_ ≠ (u4 : Value).ownBlock) (Kd.R_apart' (HO137.out) (Kd.S_typed HO_4.out) (by decide)) (fun k_ hk => ⟨hk.1.2, hk.2⟩))) (fun _ h_ => h_)))
       (case aB => exact (below_up HB.out))
       (case aF => exact (fun k_ hk => Kd.fresh' (Kd.Q_lt (by (with_reducible repeat (first | apply Kd.Q_alloc | apply Kd.Q_drewN | apply Kd.Q_drew)); exact HO143.out)) k_ hk))
       (case aO => exact (by (with_reducible repeat (first | apply Kd.S_alloc | apply Kd.S_drewN | apply Kd.S_drew)); exact Kd.S_mono HO_4.out (fun k_ hk => ⟨hk.1, fun e_ => hk.2 e_⟩)))
       (case aS => exact (below_size (below_up HB.out)))
       (case aL => have := LMc17.out; omega)
       intro v139 w24 ho hb hg hat
       rw [← Ny138.out] at ho
       have n0_ := Aside0.mk (Kd.Q_over' (Kd.Q_up HO143.out) (Kd.S_typed (Kd.S_up HO_4.out)) (by decide) hg)
       have n1_ := Aside0.mk (hb)
       have n2_ := Aside0.mk (ho)
       clear HO143
       clear HB
       clear HO_4
       clear HO137
       have HO143 := n0_
       have HB := n1_
       have HO140 := n2_
       clear n0_ n1_ n2_
       clear ho hb hg hat
       refine hK.out _ _ trivial (fun hHeld => ?_)
       clear hK K
       refine norm_ (a' := ?_) ?_ ?_
       rotate_left
       · show Act.put _ (some 34) _ = _
         simp only [puts_]
         rfl
       refine pu_ (i := 10) (N := 4) (v := ?_) (a' := ?_) (ar 12 11 []) rfl rfl (any_of HT_.out (by kernel_rfl)) ?_ ?_ ?_
       rotate_left
       · intro w'
         go_simp
         with_reducible rfl
       rotate_left
       · simp only [puts_]
         rfl
       refine pu_ (i := 11) (N := 3) (v := ?_) (a' := ?_) (ar 12 12 []) rfl rfl (any_of HT_.out (by kernel_rfl)) ?_ ?_ ?_
       rotate_left
       · intro w'
         go_simp
         with_reducible rfl
       rotate_left
       · simp only [puts_]
         rfl
       refine done_ (done_of HT_.out (by kernel_rfl)) ?_
       try go_wp2
       go_roundg k2
       case measure => have := HJ2.out; have := HK2.out; omega
       case rel => exact ⟨(y141), (y138), H', ⟨by have := HJ2.out; have := HK2.out; omega⟩, ⟨by (with_reducible repeat (first | apply Kd.Q_alloc | apply Kd.Q_drewN | apply Kd.Q_drew)); exact Kd.Q_mono HO143.out (fun _ hk => trivial)⟩, ⟨by (with_reducible repeat (first | apply Kd.S_alloc | apply Kd.S_drewN | apply Kd.S_drew)); exact HO140.out⟩, ⟨below_up HB.out⟩⟩
     rw [if_neg c14] at H
     have c14b0 : ((x3_2.length : Int) == 4) = false := beq_eq_false_iff_ne.mpr c14
     have c14b1 : ((x3_2.length : Int) != 4) = true := bne_iff_ne.mpr c14
     by_cases c26 : (x3_2.length : Int) = 2
     rotate_left
     · rw [if_neg c26] at H
       have c26b0 : ((x3_2.length : Int) == 2) = false := beq_eq_false_iff_ne.mpr c26
       have c26b1 : ((x3_2.length : Int) != 2) = true := bne_iff_ne.mpr c26
       by_cases c38 : 3 ≤ (x3_2.length : Int)
       rotate_left
       · rw [if_neg c38] at H
         exact absurd H (by simp)
       rw [if_pos c38] at H
       have c38b0 := eq_true c38
       have c38b1 : decide (3 ≤ (x3_2.length : Int)) = true := decide_eq_true c38
       clear c38
       obtain ⟨y157, hy157⟩ : ∃ y_ : List Int, y_ = (x3_2.take 3) := ⟨_, rfl⟩
       replace H : ((impl_copyOf.f y157).bind fun t161 => (if x4_2.length < 5864062014805 then (impl_RopeTeams.l0 k2 (x3_2.drop (3 : Int).toNat) (x4_2 ++ [t161])) else (none))) = some r := by first | (rw [hy157]; with_reducible exact H) | (have H2_ := (Option.bind_some _ _).symm.trans H; rw [hy157]; with_reducible exact H2_) | (have H2_ := (Option.bind_some _ _).symm.trans H; with_reducible exact H2_) | with_reducible exact H | (rw [hy157]; exact H) | exact H
       have Ny157 := Aside0.mk hy157
       clear hy157
       replace H := Option.bind_eq_some_iff.mp H
       obtain ⟨t161, A390, H⟩ := H
       have A39 := Aside0.mk A390
       clear A390
       by_cases c40 : x4_2.length < 5864062014805
       rotate_left
       · rw [if_neg c40] at H
         exact absurd H (by simp)
       rw [if_pos c40] at H
       have LMc40 := Aside0.mk c40
       clear c40
       obtain ⟨y164, hy164⟩ : ∃ y_ : List (List Int), y_ = (x4_2 ++ [t161]) := ⟨_, rfl⟩
       replace H : (impl_RopeTeams.l0 k2 (x3_2.drop (3 : Int).toNat) y164) = some r := by first | (rw [hy164]; with_reducible exact H) | (have H2_ := (Option.bind_some _ _).symm.trans H; rw [hy164]; with_reducible exact H2_) | (have H2_ := (Option.bind_some _ _).symm.trans H; with_reducible exact H2_) | with_reducible exact H | (rw [hy164]; exact H) | exact H
       have Ny164 := Aside0.mk hy164
       clear hy164
       have c41b0 := eq_true (of_decide_eq_true (by first | (with_reducible assumption) | assumption) : 3 ≤ (x3_2.length : Int))
       obtain ⟨y167, hy167⟩ : ∃ y_ : List Int, y_ = (x3_2.drop (3 : Int).toNat) := ⟨_, rfl⟩
       replace H : (impl_RopeTeams.l0 k2 y167 y164) = some r := by first | (rw [hy167]; with_reducible exact H) | (have H2_ := (Option.bind_some _ _).symm.trans H; rw [hy167]; with_reducible exact H2_) | (have H2_ := (Option.bind_some _ _).symm.trans H; with_reducible exact H2_) | with_reducible exact H | (rw [hy167]; exact H) | exact H
       have Ny167 := Aside0.mk hy167
       clear hy167
       have H' := Aside0.mk H
       clear H
       obtain ⟨Ao42, co42, eo42, _⟩ := Kd.Q_slice HO_3.out
       subst eo42
       try go_wp2
       have n0_ := Aside0.mk (Kd.Q_drew HO_3.out)
       have n1_ := Aside0.mk (Kd.S_drew HO_4.out)
       have n2_ := Aside0.mk (below_drew1 HB.out)
       clear HO_3
       clear HO_4
       clear HB
       have HO_3 := n0_
       have HO_4 := n1_
       have HB := n2_
       clear n0_ n1_ n2_
       have q44 : (3 : Int) ≤ ((x3_2.length : Int) : Int) := of_decide_eq_true (by first | (with_reducible assumption) | assumption)
       obtain ⟨i044, hi044, _, hsz44, _⟩ := info_parts info3
       have hroom44 : x3_2.length ≤ co42 := (Kd.Q_reads' HO_3.out).2.1
       have hC44 : Kd.C (Kd.int .i64) _ Ao42 x3_2.length x3_2 := (Kd.Q_reads' HO_3.out).2.2
       have hcut44 := cut_to (P := Try.prog) 36 3 .i64 Try.underlying36 hi044 Ao42 x3_2.length co42 3 (by omega) q44 hroom44
       have hr44 := Kd.C_take (m := 3) hC44 (by omega)
       have hy44 : y157.length = (3 : Int).toNat := (by rw [Ny157.out, List.length_take]; omega)
       rw [← Ny157.out] at hr44
       rw [← hy44] at hcut44
       have HR160 := Aside0.mk hr44
       have HC160 := Aside0.mk (show y157.length ≤ co42 from by omega)
       clear hr44 hC44 hroom44 hi044 hsz44
       have KY44 := Aside0.mk hy44
       clear hy44
       have KL44 := Aside0.mk (show 3 ≤ x3_2.length from by omega)
       replace q44 := eq_true q44
       have q45 : (3 : Int) ≤ ((x3_2.length : Int) : Int) := of_decide_eq_true (by first | (with_reducible assumption) | assumption)
       obtain ⟨i045, hi045, _, hsz45, _⟩ := info_parts info3
       have hcut45 := cut_from (P := Try.prog) 36 3 .i64 Try.underlying36 hi045 1 hsz45 Ao42 x3_2.length co42 3 (by omega) q45
       have hr45 := Kd.Q_drop (k := (3 : Int).toNat) HO_3.out (by omega)
       obtain ⟨A45, hA45⟩ : ∃ A1, A1 = (if co42 = (3 : Int).toNat then Ao42 else (Ao42 : Option Addr).map (·.add ((3 : Int).toNat * 1))) := ⟨_, rfl⟩
       obtain ⟨c45, hc45⟩ : ∃ c1, c1 = co42 - (3 : Int).toNat := ⟨_, rfl⟩
       have hy45 : y167.length = x3_2.length - (3 : Int).toNat := (by rw [Ny167.out, List.length_drop])
       rw [← Ny167.out] at hr45
       rw [← hy45, ← hA45, ← hc45] at hcut45
       replace hr45 : Kd.Q (Kd.int .i64) 3 _ w.heap.size (fun _ => True) (.slice A45 y167.length c45) y167 := (by rw [hA45, hc45, hy45]; exact hr45)
       have HE45 : Aside0 ((Value.slice A45 y167.length c45).ownBlock = (.slice Ao42 x3_2.length co42 : Value).ownBlock) := ⟨by rw [hA45]; split <;> (cases (Ao42 : Option Addr) <;> rfl)⟩
       clear hy45 hi045 hsz45 HO_3 hA45 hc45
       have HO169 := Aside0.mk hr45
       clear hr45
       replace q45 := eq_true q45
       have n_ := Aside0.mk (Kd.S_mono (ok' := fun k_ => some k_ ≠ (.slice A45 y167.length c45 : Value).ownBlock) HO_4.out (fun k_ hk => (by rw [HE45.out]; exact hk)))
       clear HO_4
       have HO_4 := n_
       clear n_
       refine start_ (n := 12) (S := fun w' => True) (ds := []) (ar 12 0 []) (by kernel_rfl) rfl rfl trivial (fun hHeld => ?_); refine with_tabW impl_RopeTeams.tab9 impl_RopeTeams.bits9 (fun HT_ HW_ => ?_)
       generalize wr.drew = w43 at HO_3 HO_4 HB HO169 HR160 hHeld ⊢
       refine pu_ (i := 0) (N := 28) (v := ?_) (a' := ?_) (ar 12 1 []) rfl rfl (any_of HT_.out (by kernel_rfl)) ?_ ?_ ?_
       rotate_left
       · intro w'
         go_simp
         with_reducible rfl
       rotate_left
       · simp only [puts_]
         rfl
       refine pu_ (i := 1) (N := 29) (v := ?_) (a' := ?_) (ar 12 2 []) rfl rfl (any_of HT_.out (by kernel_rfl)) ?_ ?_ ?_
       rotate_left
       · intro w'
         go_simp
         with_reducible rfl
       rotate_left
       · simp only [puts_]
         rfl
       refine pu_ (i := 2) (N := 30) (v := ?_) (a' := ?_) (ar 12 3 []) rfl rfl (any_of HT_.out (by kernel_rfl)) ?_ ?_ ?_
       rotate_left
       · intro w'
         go_simp
         with_reducible rfl
       rotate_left
       · simp only [puts_]
         rfl
       refine pu_ (i := 3) (N := 31) (v := ?_) (a' := ?_) (ar 12 4 []) rfl rfl (any_of HT_.out (by kernel_rfl)) ?_ ?_ ?_
       rotate_left
       · intro w'
         go_simp
         with_reducible rfl
       rotate_left
       · simp only [puts_]
         rfl
       refine pu_ (i := 7) (N := 35) (v := ?_) (a' := ?_) (ar 12 8 [4, 5, 6]) rfl rfl (any_of HT_.out (by kernel_rfl)) ?_ ?_ ?_
       rotate_left
       · intro w'
         go_simp
         with_reducible rfl
       rotate_left
       · simp only [puts_]
         rfl
       refine pu_ (i := 8) (N := 36) (v := ?_) (a' := ?_) (ar 12 9 [4, 5, 6]) rfl rfl (any_of HT_.out (by kernel_rfl)) ?_ ?_ ?_
       rotate_left
       · intro w'
         go_simp
         with_reducible rfl
       rotate_left
       · simp only [puts_]
         rfl
       refine pu_ (i := 9) (N := 37) (v := ?_) (a' := ?_) (ar 12 10 [4, 5, 6]) rfl rfl (any_of HT_.out (by kernel_rfl)) ?_ ?_ ?_
       rotate_left
       · intro w'
         go_simp
         with_reducible rfl
       rotate_left
       · simp only [puts_]
         rfl
       refine one_ (i := 4) (N := some 32) (ar 12 10 [5, 6]) rfl rfl (one_of HT_.out (by kernel_rfl)) (by decide) (fun K hK => ?_)
       refine goes_ Try.func46 (by kernel_rfl) rfl #[.slice Ao42 y157.length co42] (by rfl) rfl rfl (by (try simp only [am_]); first | done | rfl) ?_
       with_reducible refine (impl_copyOf.calls _ _ y157 t161 _ ?side1 ?side2 A39.out).mono ?_
       (case side1 => repeat (first | exact (by repeat (first | (with_reducible exact HR160.out) | (with_reducible refine Kd.C_alloc ?_ _) | (with_reducible refine Kd.C_drewN ?_ _) | (with_reducible refine Kd.C_drew ?_) | exact HR160.out)) | (with_reducible refine Kd.C_alloc ?_ _) | (with_reducible refine Kd.C_drewN ?_ _) | (with_reducible refine Kd.C_drew ?_)))
       (case side2 => exact HC160.out)
       rintro e w46 ⟨v162, rfl, ho0, hb⟩
       refine ⟨_, rfl, ?_⟩
       have n0_ := Aside0.mk (Kd.Q_elder' (Kd.Q_up HO169.out) (Kd.R_base ho0) hb)
       have n1_ := Aside0.mk (Kd.S_elder' (Kd.S_up HO_4.out) (Kd.R_base ho0) hb)
       have n2_ := Aside0.mk (Kd.R_lower (Kd.R_new' ho0 (Kd.Q_lt (Kd.Q_up HO169.out))) (below_size (below_up HB.out)))
       have n3_ := Aside0.mk (Kd.C_below (by repeat (first | (with_reducible exact HR160.out) | (with_reducible refine Kd.C_alloc ?_ _) | (with_reducible refine Kd.C_drewN ?_ _) | (with_reducible refine Kd.C_drew ?_) | exact HR160.out)) hb)
       have n4_ := Aside0.mk (below_step (below_up HB.out) hb)
       clear HO169
       clear HO_4
       clear HR160
       clear HB
       have HO169 := n0_
       have HO_4 := n1_
       have HO163 := n2_
       have HR160 := n3_
       have HB := n4_
       clear n0_ n1_ n2_ n3_ n4_
       (try clear hb)
       (try clear hb2)
       (try clear hk)
       (try clear hi)
       (try clear ho0)
       obtain ⟨Ao48, co48, eo48⟩ := Kd.R_slice HO163.out
       (first | subst eo48 | (injection eo48 with f1_ f2_ f3_; have f4_ := f1_.symm; have f5_ := f3_.symm; clear f1_ f2_ f3_; subst f4_; subst f5_))
       refine hK.out _ _ trivial (fun hHeld => ?_)
       clear hK K
       refine norm_ (a' := ?_) ?_ ?_
       rotate_left
       · show Act.put _ (some 32) _ = _
         simp only [puts_]
         rfl
       refine one_ (i := 5) (N := some 33) (ar 12 10 [6]) rfl rfl (one_of HT_.out (by kernel_rfl)) (by decide) (fun K hK => ?_)
       refine value_ (w1 := ?_) (v := ?_) (by rfl) rfl ?_ ?_
       rotate_left 2
       · go_simp
         constructor
         · rfl
         · rfl
       refine hK.out _ _ trivial (fun hHeld => ?_)
       clear hK K
       refine norm_ (a' := ?_) ?_ ?_
       rotate_left
       · show Act.put _ (some 33) _ = _
         simp only [puts_]
         rfl
       refine one_ (i := 6) (N := some 34) (ar 12 10 []) rfl rfl (one_of HT_.out (by kernel_rfl)) (by decide) (fun K hK => ?_)
       refine Kd.S_append_step (Kd.slice 3 (Kd.int .i64)) (w0 := w) w.heap.size (by rfl) (.tmp 28) (.tmp 33) 24 36 (.slice none 0 0) 24 rfl Try.underlying24 info36 rfl (by decide) (by omega) u4 x4_2 t161 [.slice Ao48 t161.length co48] (fun k_ => some k_ ≠ (.slice A45 y167.length c45 : Value).ownBlock) (fun k_ => some k_ = (.slice Ao48 t161.length co48 : Value).ownBlock) rfl rfl ?aP (fun k_ hk_ => ((Kd.R_mono (ok' := fun k_ => ((fun k_ => some k_ ≠ (.slice A45 y167.length c45 : Value).ownBlock)) k_ ∧ some k_ ≠ (u4 : Value).ownBlock) (Kd.R_apart' (HO163.out) (Kd.S_typed HO_4.out) (by decide)) (fun k_ hk => ⟨hk.1.2, hk.2⟩))).1 k_ hk_.symm) ?aF ?aO ?aB ?aS ?aL ?_
       (case aP => exact Kd.M_row (Kd.R_mono (Kd.R_tight rfl (Kd.R_mono (ok' := fun k_ => ((fun k_ => some k_ ≠ (.slice A45 y167.length c45 : Value).ownBlock)) k_ ∧ some k_ ≠ (u4 : Value).ownBlock) (Kd.R_apart' (HO163.out) (Kd.S_typed HO_4.out) (by decide)) (fun k_ hk => ⟨hk.1.2, hk.2⟩))) (fun _ h_ => h_)))
       (case aB => exact (below_up HB.out))
       (case aF => exact (fun k_ hk => Kd.fresh' (Kd.Q_lt (by (with_reducible repeat (first | apply Kd.Q_alloc | apply Kd.Q_drewN | apply Kd.Q_drew)); exact HO169.out)) k_ hk))
       (case aO => exact (by (with_reducible repeat (first | apply Kd.S_alloc | apply Kd.S_drewN | apply Kd.S_drew)); exact Kd.S_mono HO_4.out (fun k_ hk => ⟨hk.1, fun e_ => hk.2 e_⟩)))
       (case aS => exact (below_size (below_up HB.out)))
       (case aL => have := LMc40.out; omega)
       intro v165 w47 ho hb hg hat
       rw [← Ny164.out] at ho
       have n0_ := Aside0.mk (Kd.Q_over' (Kd.Q_up HO169.out) (Kd.S_typed (Kd.S_up HO_4.out)) (by decide) hg)
       have n1_ := Aside0.mk (hb)
       have n2_ := Aside0.mk (ho)
       clear HO169
       clear HB
       clear HO_4
       clear HO163
       have HO169 := n0_
       have HB := n1_
       have HO166 := n2_
       clear n0_ n1_ n2_
       clear ho hb hg hat
       refine hK.out _ _ trivial (fun hHeld => ?_)
       clear hK K
       refine norm_ (a' := ?_) ?_ ?_
       rotate_left
       · show Act.put _ (some 34) _ = _
         simp only [puts_]
         rfl
       refine pu_ (i := 10) (N := 4) (v := ?_) (a' := ?_) (ar 12 11 []) rfl rfl (any_of HT_.out (by kernel_rfl)) ?_ ?_ ?_
       rotate_left
       · intro w'
         go_simp
         with_reducible rfl
       rotate_left
       · simp only [puts_]
         rfl
       refine pu_ (i := 11) (N := 3) (v := ?_) (a' := ?_) (ar 12 12 []) rfl rfl (any_of HT_.out (by kernel_rfl)) ?_ ?_ ?_
       rotate_left
       · intro w'
         go_simp
         with_reducible rfl
       rotate_left
       · simp only [puts_]
         rfl
       refine done_ (done_of HT_.out (by kernel_rfl)) ?_
       try go_wp2
       go_roundg k2
       case measure => have := HJ2.out; have := HK2.out; omega
       case rel => exact ⟨(y167), (y164), H', ⟨by have := HJ2.out; have := HK2.out; omega⟩, ⟨by (with_reducible repeat (first | apply Kd.Q_alloc | apply Kd.Q_drewN | apply Kd.Q_drew)); exact Kd.Q_mono HO169.out (fun _ hk => trivial)⟩, ⟨by (with_reducible repeat (first | apply Kd.S_alloc | apply Kd.S_drewN | apply Kd.S_drew)); exact HO166.out⟩, ⟨below_up HB.out⟩⟩
     rw [if_pos c26] at H
     have c26b0 : ((x3_2.length : Int) == 2) = true := beq_iff_eq.mpr c26
     have c26b1 : ((x3_2.length : Int) != 2) = false := bne_eq_false_iff_eq.mpr c26
     clear c26
     by_cases c27 : 2 ≤ (x3_2.length : Int)
     rotate_left
     · rw [if_neg c27] at H
       exact absurd H (by simp)
     rw [if_pos c27] at H
     have c27b0 := eq_true c27
     have c27b1 : decide (2 ≤ (x3_2.length : Int)) = true := decide_eq_true c27
     clear c27
     obtain ⟨y144, hy144⟩ : ∃ y_ : List Int, y_ = (x3_2.take 2) := ⟨_, rfl⟩
     replace H : ((impl_copyOf.f y144).bind fun t148 => (if x4_2.length < 5864062014805 then (impl_RopeTeams.l0 k2 (x3_2.drop (2 : Int).toNat) (x4_2 ++ [t148])) else (none))) = some r := by first | (rw [hy144]; with_reducible exact H) | (have H2_ := (Option.bind_some _ _).symm.trans H; rw [hy144]; with_reducible exact H2_) | (have H2_ := (Option.bind_some _ _).symm.trans H; with_reducible exact H2_) | with_reducible exact H | (rw [hy144]; exact H) | exact H
     have Ny144 := Aside0.mk hy144
     clear hy144
     replace H := Option.bind_eq_some_iff.mp H
     obtain ⟨t148, A280, H⟩ := H
     have A28 := Aside0.mk A280
     clear A280
     by_cases c29 : x4_2.length < 5864062014805
     rotate_left
     · rw [if_neg c29] at H
       exact absurd H (by simp)
     rw [if_pos c29] at H
     have LMc29 := Aside0.mk c29
     clear c29
     obtain ⟨y151, hy151⟩ : ∃ y_ : List (List Int), y_ = (x4_2 ++ [t148]) := ⟨_, rfl⟩
     replace H : (impl_RopeTeams.l0 k2 (x3_2.drop (2 : Int).toNat) y151) = some r := by first | (rw [hy151]; with_reducible exact H) | (have H2_ := (Option.bind_some _ _).symm.trans H; rw [hy151]; with_reducible exact H2_) | (have H2_ := (Option.bind_some _ _).symm.trans H; with_reducible exact H2_) | with_reducible exact H | (rw [hy151]; exact H) | exact H
     have Ny151 := Aside0.mk hy151
     clear hy151
     have c30b0 := eq_true (of_decide_eq_true (by first | (with_reducible assumption) | assumption) : 2 ≤ (x3_2.length : Int))
     obtain ⟨y154, hy154⟩ : ∃ y_ : List Int, y_ = (x3_2.drop (2 : Int).toNat) := ⟨_, rfl⟩
     replace H : (impl_RopeTeams.l0 k2 y154 y151) = some r := by first | (rw [hy154]; with_reducible exact H) | (have H2_ := (Option.bind_some _ _).symm.trans H; rw [hy154]; with_reducible exact H2_) | (have H2_ := (Option.bind_some _ _).symm.trans H; with_reducible exact H2_) | with_reducible exact H | (rw [hy154]; exact H) | exact H
     have Ny154 := Aside0.mk hy154
     clear hy154
     have H' := Aside0.mk H
     clear H
     obtain ⟨Ao31, co31, eo31, _⟩ := Kd.Q_slice HO_3.out
     subst eo31
     try go_wp2
     have n0_ := Aside0.mk (Kd.Q_drew HO_3.out)
     have n1_ := Aside0.mk (Kd.S_drew HO_4.out)
     have n2_ := Aside0.mk (below_drew1 HB.out)
     clear HO_3
     clear HO_4
     clear HB
     have HO_3 := n0_
     have HO_4 := n1_
     have HB := n2_
     clear n0_ n1_ n2_
     have q33 : (2 : Int) ≤ ((x3_2.length : Int) : Int) := of_decide_eq_true (by first | (with_reducible assumption) | assumption)
     obtain ⟨i033, hi033, _, hsz33, _⟩ := info_parts info3
     have hroom33 : x3_2.length ≤ co31 := (Kd.Q_reads' HO_3.out).2.1
     have hC33 : Kd.C (Kd.int .i64) _ Ao31 x3_2.length x3_2 := (Kd.Q_reads' HO_3.out).2.2
     have hcut33 := cut_to (P := Try.prog) 36 3 .i64 Try.underlying36 hi033 Ao31 x3_2.length co31 2 (by omega) q33 hroom33
     have hr33 := Kd.C_take (m := 2) hC33 (by omega)
     have hy33 : y144.length = (2 : Int).toNat := (by rw [Ny144.out, List.length_take]; omega)
     rw [← Ny144.out] at hr33
     rw [← hy33] at hcut33
     have HR147 := Aside0.mk hr33
     have HC147 := Aside0.mk (show y144.length ≤ co31 from by omega)
     clear hr33 hC33 hroom33 hi033 hsz33
     have KY33 := Aside0.mk hy33
     clear hy33
     have KL33 := Aside0.mk (show 2 ≤ x3_2.length from by omega)
     replace q33 := eq_true q33
     have q34 : (2 : Int) ≤ ((x3_2.length : Int) : Int) := of_decide_eq_true (by first | (with_reducible assumption) | assumption)
     obtain ⟨i034, hi034, _, hsz34, _⟩ := info_parts info3
     have hcut34 := cut_from (P := Try.prog) 36 3 .i64 Try.underlying36 hi034 1 hsz34 Ao31 x3_2.length co31 2 (by omega) q34
     have hr34 := Kd.Q_drop (k := (2 : Int).toNat) HO_3.out (by omega)
     obtain ⟨A34, hA34⟩ : ∃ A1, A1 = (if co31 = (2 : Int).toNat then Ao31 else (Ao31 : Option Addr).map (·.add ((2 : Int).toNat * 1))) := ⟨_, rfl⟩
     obtain ⟨c34, hc34⟩ : ∃ c1, c1 = co31 - (2 : Int).toNat := ⟨_, rfl⟩
     have hy34 : y154.length = x3_2.length - (2 : Int).toNat := (by rw [Ny154.out, List.length_drop])
     rw [← Ny154.out] at hr34
     rw [← hy34, ← hA34, ← hc34] at hcut34
     replace hr34 : Kd.Q (Kd.int .i64) 3 _ w.heap.size (fun _ => True) (.slice A34 y154.length c34) y154 := (by rw [hA34, hc34, hy34]; exact hr34)
     have HE34 : Aside0 ((Value.slice A34 y154.length c34).ownBlock = (.slice Ao31 x3_2.length co31 : Value).ownBlock) := ⟨by rw [hA34]; split <;> (cases (Ao31 : Option Addr) <;> rfl)⟩
     clear hy34 hi034 hsz34 HO_3 hA34 hc34
     have HO156 := Aside0.mk hr34
     clear hr34
     replace q34 := eq_true q34
     have n_ := Aside0.mk (Kd.S_mono (ok' := fun k_ => some k_ ≠ (.slice A34 y154.length c34 : Value).ownBlock) HO_4.out (fun k_ hk => (by rw [HE34.out]; exact hk)))
     clear HO_4
     have HO_4 := n_
     clear n_
     refine start_ (n := 12) (S := fun w' => True) (ds := []) (ar 12 0 []) (by kernel_rfl) rfl rfl trivial (fun hHeld => ?_); refine with_tabW impl_RopeTeams.tab9 impl_RopeTeams.bits9 (fun HT_ HW_ => ?_)
     generalize wr.drew = w32 at HO_3 HO_4 HB HO156 HR147 hHeld ⊢
     refine pu_ (i := 0) (N := 28) (v := ?_) (a' := ?_) (ar 12 1 []) rfl rfl (any_of HT_.out (by kernel_rfl)) ?_ ?_ ?_
     rotate_left
     · intro w'
       go_simp
       with_reducible rfl
     rotate_left
     · simp only [puts_]
       rfl
     refine pu_ (i := 1) (N := 29) (v := ?_) (a' := ?_) (ar 12 2 []) rfl rfl (any_of HT_.out (by kernel_rfl)) ?_ ?_ ?_
     rotate_left
     · intro w'
       go_simp
       with_reducible rfl
     rotate_left
     · simp only [puts_]
       rfl
     refine pu_ (i := 2) (N := 30) (v := ?_) (a' := ?_) (ar 12 3 []) rfl rfl (any_of HT_.out (by kernel_rfl)) ?_ ?_ ?_
     rotate_left
     · intro w'
       go_simp
       with_reducible rfl
     rotate_left
     · simp only [puts_]
       rfl
     refine pu_ (i := 3) (N := 31) (v := ?_) (a' := ?_) (ar 12 4 []) rfl rfl (any_of HT_.out (by kernel_rfl)) ?_ ?_ ?_
     rotate_left
     · intro w'
       go_simp
       with_reducible rfl
     rotate_left
     · simp only [puts_]
       rfl
     refine pu_ (i := 7) (N := 35) (v := ?_) (a' := ?_) (ar 12 8 [4, 5, 6]) rfl rfl (any_of HT_.out (by kernel_rfl)) ?_ ?_ ?_
     rotate_left
     · intro w'
       go_simp
       with_reducible rfl
     rotate_left
     · simp only [puts_]
       rfl
     refine pu_ (i := 8) (N := 36) (v := ?_) (a' := ?_) (ar 12 9 [4, 5, 6]) rfl rfl (any_of HT_.out (by kernel_rfl)) ?_ ?_ ?_
     rotate_left
     · intro w'
       go_simp
       with_reducible rfl
     rotate_left
     · simp only [puts_]
       rfl
     refine pu_ (i := 9) (N := 37) (v := ?_) (a' := ?_) (ar 12 10 [4, 5, 6]) rfl rfl (any_of HT_.out (by kernel_rfl)) ?_ ?_ ?_
     rotate_left
     · intro w'
       go_simp
       with_reducible rfl
     rotate_left
     · simp only [puts_]
       rfl
     refine one_ (i := 4) (N := some 32) (ar 12 10 [5, 6]) rfl rfl (one_of HT_.out (by kernel_rfl)) (by decide) (fun K hK => ?_)
     refine goes_ Try.func46 (by kernel_rfl) rfl #[.slice Ao31 y144.length co31] (by rfl) rfl rfl (by (try simp only [am_]); first | done | rfl) ?_
     with_reducible refine (impl_copyOf.calls _ _ y144 t148 _ ?side1 ?side2 A28.out).mono ?_
     (case side1 => repeat (first | exact (by repeat (first | (with_reducible exact HR147.out) | (with_reducible refine Kd.C_alloc ?_ _) | (with_reducible refine Kd.C_drewN ?_ _) | (with_reducible refine Kd.C_drew ?_) | exact HR147.out)) | (with_reducible refine Kd.C_alloc ?_ _) | (with_reducible refine Kd.C_drewN ?_ _) | (with_reducible refine Kd.C_drew ?_)))
     (case side2 => exact HC147.out)
     rintro e w35 ⟨v149, rfl, ho0, hb⟩
     refine ⟨_, rfl, ?_⟩
     have n0_ := Aside0.mk (Kd.Q_elder' (Kd.Q_up HO156.out) (Kd.R_base ho0) hb)
     have n1_ := Aside0.mk (Kd.S_elder' (Kd.S_up HO_4.out) (Kd.R_base ho0) hb)
     have n2_ := Aside0.mk (Kd.R_lower (Kd.R_new' ho0 (Kd.Q_lt (Kd.Q_up HO156.out))) (below_size (below_up HB.out)))
     have n3_ := Aside0.mk (Kd.C_below (by repeat (first | (with_reducible exact HR147.out) | (with_reducible refine Kd.C_alloc ?_ _) | (with_reducible refine Kd.C_drewN ?_ _) | (with_reducible refine Kd.C_drew ?_) | exact HR147.out)) hb)
     have n4_ := Aside0.mk (below_step (below_up HB.out) hb)
     clear HO156
     clear HO_4
     clear HR147
     clear HB
     have HO156 := n0_
     have HO_4 := n1_
     have HO150 := n2_
     have HR147 := n3_
     have HB := n4_
     clear n0_ n1_ n2_ n3_ n4_
     (try clear hb)
     (try clear hb2)
     (try clear hk)
     (try clear hi)
     (try clear ho0)
     obtain ⟨Ao37, co37, eo37⟩ := Kd.R_slice HO150.out
     (first | subst eo37 | (injection eo37 with f1_ f2_ f3_; have f4_ := f1_.symm; have f5_ := f3_.symm; clear f1_ f2_ f3_; subst f4_; subst f5_))
     refine hK.out _ _ trivial (fun hHeld => ?_)
     clear hK K
     refine norm_ (a' := ?_) ?_ ?_
     rotate_left
     · show Act.put _ (some 32) _ = _
       simp only [puts_]
       rfl
     refine one_ (i := 5) (N := some 33) (ar 12 10 [6]) rfl rfl (one_of HT_.out (by kernel_rfl)) (by decide) (fun K hK => ?_)
     refine value_ (w1 := ?_) (v := ?_) (by rfl) rfl ?_ ?_
     rotate_left 2
     · go_simp
       constructor
       · rfl
       · rfl
     refine hK.out _ _ trivial (fun hHeld => ?_)
     clear hK K
     refine norm_ (a' := ?_) ?_ ?_
     rotate_left
     · show Act.put _ (some 33) _ = _
       simp only [puts_]
       rfl
     refine one_ (i := 6) (N := some 34) (ar 12 10 []) rfl rfl (one_of HT_.out (by kernel_rfl)) (by decide) (fun K hK => ?_)
     refine Kd.S_append_step (Kd.slice 3 (Kd.int .i64)) (w0 := w) w.heap.size (by rfl) (.tmp 28) (.tmp 33) 24 36 (.slice none 0 0) 24 rfl Try.underlying24 info36 rfl (by decide) (by omega) u4 x4_2 t148 [.slice Ao37 t148.length co37] (fun k_ => some k_ ≠ (.slice A34 y154.length c34 : Value).ownBlock) (fun k_ => some k_ = (.slice Ao37 t148.length co37 : Value).ownBlock) rfl rfl ?aP (fun k_ hk_ => ((Kd.R_mono (ok' := fun k_ => ((fun k_ => some k_ ≠ (.slice A34 y154.length c34 : Value).ownBlock)) k_ ∧ some k_ ≠ (u4 : Value).ownBlock) (Kd.R_apart' (HO150.out) (Kd.S_typed HO_4.out) (by decide)) (fun k_ hk => ⟨hk.1.2, hk.2⟩))).1 k_ hk_.symm) ?aF ?aO ?aB ?aS ?aL ?_
     (case aP => exact Kd.M_row (Kd.R_mono (Kd.R_tight rfl (Kd.R_mono (ok' := fun k_ => ((fun k_ => some k_ ≠ (.slice A34 y154.length c34 : Value).ownBlock)) k_ ∧ some k_ ≠ (u4 : Value).ownBlock) (Kd.R_apart' (HO150.out) (Kd.S_typed HO_4.out) (by decide)) (fun k_ hk => ⟨hk.1.2, hk.2⟩))) (fun _ h_ => h_)))
     (case aB => exact (below_up HB.out))
     (case aF => exact (fun k_ hk => Kd.fresh' (Kd.Q_lt (by (with_reducible repeat (first | apply Kd.Q_alloc | apply Kd.Q_drewN | apply Kd.Q_drew)); exact HO156.out)) k_ hk))
     (case aO => exact (by (with_reducible repeat (first | apply Kd.S_alloc | apply Kd.S_drewN | apply Kd.S_drew)); exact Kd.S_mono HO_4.out (fun k_ hk => ⟨hk.1, fun e_ => hk.2 e_⟩)))
     (case aS => exact (below_size (below_up HB.out)))
     (case aL => have := LMc29.out; omega)
     intro v152 w36 ho hb hg hat
     rw [← Ny151.out] at ho
     have n0_ := Aside0.mk (Kd.Q_over' (Kd.Q_up HO156.out) (Kd.S_typed (Kd.S_up HO_4.out)) (by decide) hg)
     have n1_ := Aside0.mk (hb)
     have n2_ := Aside0.mk (ho)
     clear HO156
     clear HB
     clear HO_4
     clear HO150
     have HO156 := n0_
     have HB := n1_
     have HO153 := n2_
     clear n0_ n1_ n2_
     clear ho hb hg hat
     refine hK.out _ _ trivial (fun hHeld => ?_)
     clear hK K
     refine norm_ (a' := ?_) ?_ ?_
     rotate_left
     · show Act.put _ (some 34) _ = _
       simp only [puts_]
       rfl
     refine pu_ (i := 10) (N := 4) (v := ?_) (a' := ?_) (ar 12 11 []) rfl rfl (any_of HT_.out (by kernel_rfl)) ?_ ?_ ?_
     rotate_left
     · intro w'
       go_simp
       with_reducible rfl
     rotate_left
     · simp only [puts_]
       rfl
     refine pu_ (i := 11) (N := 3) (v := ?_) (a' := ?_) (ar 12 12 []) rfl rfl (any_of HT_.out (by kernel_rfl)) ?_ ?_ ?_
     rotate_left
     · intro w'
       go_simp
       with_reducible rfl
     rotate_left
     · simp only [puts_]
       rfl
     refine done_ (done_of HT_.out (by kernel_rfl)) ?_
     try go_wp2
     go_roundg k2
     case measure => have := HJ2.out; have := HK2.out; omega
     case rel => exact ⟨(y154), (y151), H', ⟨by have := HJ2.out; have := HK2.out; omega⟩, ⟨by (with_reducible repeat (first | apply Kd.Q_alloc | apply Kd.Q_drewN | apply Kd.Q_drew)); exact Kd.Q_mono HO156.out (fun _ hk => trivial)⟩, ⟨by (with_reducible repeat (first | apply Kd.S_alloc | apply Kd.S_drewN | apply Kd.S_drew)); exact HO153.out⟩, ⟨below_up HB.out⟩⟩

end Go.Proofs.Ytdgpnmbmnnmdcaa.PFnRopes
