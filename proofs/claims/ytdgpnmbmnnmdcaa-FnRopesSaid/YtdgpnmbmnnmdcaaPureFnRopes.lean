/- The law Ropes: whatever the bytes of the draw: ropes have everybody who is well, and nobody alone: the law's Go function answers true. No condition beyond the kinds of the numbers. -/
import Derived.Test.YtdgpnmbmnnmdcaaPFnRopesx16
import Derived.Test.YtdgpnmbmnnmdcaaAid
import Derived.Laws.BitsLemmas
namespace Go.Proofs.Ytdgpnmbmnnmdcaa.Pure
open Go.RowKit Go.Proofs.Ytdgpnmbmnnmdcaa.PFnRopes Go.Proofs.Ytdgpnmbmnnmdcaa.Aid Go.Proofs.YtdgpnmbmnnmdcaaW.PrintWords Go.Proofs.YtdgpnmbmnnmdcaaW.PrintLast Go.Proofs.YtdgpnmbmnnmdcaaW.PrintMore
set_option linter.unusedVariables false
set_option linter.unusedSimpArgs false
/-- The cursor over the bytes of a draw stands within them. -/
def curOk (b : List Int) (i : Int) : Prop := 0 ≤ i ∧ i ≤ (b.length : Int) ∧ b.length ≤ 1048576
theorem and255 (x : Int) : 0 ≤ Go.bits .and .i64 x 255 ∧ Go.bits .and .i64 x 255 ≤ 255 := by
  have h : (BitVec.ofInt 64 x &&& BitVec.ofInt 64 255).toNat ≤ 255 := by
    rw [BitVec.toNat_and]
    exact Nat.and_le_right
  have e : Go.bits .and .i64 x 255 = IntKind.i64.wrap ((BitVec.ofInt 64 x &&& BitVec.ofInt 64 255).toNat : Int) := rfl
  rw [e, IntKind.wrap_i64]
  omega
theorem l1New_ev {l : List Int} (hl : l.length ≤ 1048576) : ∃ h, Ev (fun k => spec_l1New.f k l) (l, 0, h) := by
  have key : ∀ (d : Nat) (i : Nat) (h : Int), (l.length : Int) - i ≤ d → ∃ r, Ev (fun k => spec_l1New.l0 k l h (i : Int)) (l, 0, r) := by
    intro d
    induction d with
    | zero =>
      intro i h hd
      refine ⟨h, Ev.step (f := fun _ => some (l, 0, h)) (fun k => ?_) (Ev.now _)⟩
      simp only [spec_l1New.l0]
      rw [if_neg (by omega)]
    | succ d ih =>
      intro i h hd
      by_cases c : (i : Int) < (l.length : Int)
      · by_cases c2 : (i : Int) < 4000
        · obtain ⟨r, hr⟩ := ih (i + 1) (Go.bits .and .i64 (wrap64 ((wrap64 ((wrap64 (h * 137)) + (wrap64 (rd l (i : Int))))) + 11)) 1073741823) (by omega)
          refine ⟨r, Ev.step (fun k => ?_) hr⟩
          simp only [spec_l1New.l0]
          rw [if_pos c, if_pos c2, if_pos (by omega), wrapSucc (by omega)]
        · refine ⟨h, Ev.step (f := fun _ => some (l, 0, h)) (fun k => ?_) (Ev.now _)⟩
          simp only [spec_l1New.l0]
          rw [if_pos c, if_neg c2]
      · refine ⟨h, Ev.step (f := fun _ => some (l, 0, h)) (fun k => ?_) (Ev.now _)⟩
        simp only [spec_l1New.l0]
        rw [if_neg c]
  obtain ⟨r, hr⟩ := key l.length 0 (wrap64 (193017 + (l.length : Int))) (by omega)
  refine ⟨r, ?_⟩
  unfold spec_l1New.f
  exact hr
theorem l1Byte_some {b : List Int} {i : Int} (h : Int) (hc : curOk b i) : ∃ x i' h', spec_l1Byte.f b i h = some (x, i', h') ∧ (0 ≤ x ∧ x ≤ 255) ∧ curOk b i' := by
  unfold curOk at hc
  unfold spec_l1Byte.f
  by_cases c : i < (b.length : Int)
  · rw [if_pos c, if_pos hc.1]
    refine ⟨_, _, _, rfl, and255 _, ?_⟩
    rw [wrapId (n := i + 1) (by omega) (by omega)]
    unfold curOk
    omega
  · rw [if_neg c]
    exact ⟨_, _, _, rfl, and255 _, hc⟩
theorem l1Below_some {b : List Int} {i : Int} (h : Int) {n : Int} (hn : 1 ≤ n ∧ n ≤ 256) (hc : curOk b i) : ∃ x i' h', spec_l1Below.f b i h n = some (x, i', h') ∧ (0 ≤ x ∧ x < n) ∧ curOk b i' := by
  unfold spec_l1Below.f
  obtain ⟨x, i', h', e, hx, hc'⟩ := l1Byte_some h hc
  rw [if_neg (by omega), if_pos hn.2, e]
  simp only [Option.bind_some]
  rw [if_neg (by omega), Int.tmod_eq_emod_of_nonneg hx.1]
  exact ⟨_, _, _, rfl, ⟨Int.emod_nonneg _ (by omega), Int.emod_lt_of_pos _ (by omega)⟩, hc'⟩
theorem l1Below_zero (b : List Int) (i h : Int) {n : Int} (hn : n ≤ 0) : spec_l1Below.f b i h n = some (0, i, h) := by
  unfold spec_l1Below.f
  rw [if_pos hn]

theorem l1Int_some {b : List Int} {i : Int} (h : Int) {l : List Int} (hl : 1 ≤ l.length ∧ l.length ≤ 256) (hc : curOk b i) : ∃ x i' h', spec_l1Int.f b i h l = some (x, i', h') ∧ x ∈ l ∧ curOk b i' := by
  unfold spec_l1Int.f
  obtain ⟨x, i', h', e, hx, hc'⟩ := l1Below_some h (n := (l.length : Int)) (by omega) hc
  rw [e]
  simp only [Option.bind_some]
  rw [if_pos hx.1, if_pos hx.2]
  refine ⟨_, _, _, rfl, ?_, hc'⟩
  unfold rd
  rw [getD_lt (by omega)]
  exact List.getElem_mem _

theorem l1Once_some {b : List Int} {i : Int} (h : Int) {n : Int} (hn : 1 ≤ n ∧ n ≤ 256) (hc : curOk b i) : ∃ q i' h', spec_l1Once.f b i h n = some (q, i', h') ∧ curOk b i' := by
  unfold spec_l1Once.f
  obtain ⟨x, i', h', e, hx, hc'⟩ := l1Below_some h hn hc
  rw [e]
  exact ⟨_, _, _, rfl, hc'⟩

theorem rdM {xs : List S68} {i : Nat} (h : i < xs.length) : rd_T68 xs (i : Int) = xs[i] := by
  unfold rd_T68
  rw [Int.toNat_natCast, getD_lt h]

theorem l7Draw_ev {b : List Int} : ∀ (d : Nat) (x : List S68) (n i h : Int), curOk b i → x.length ≤ 4 → 1 ≤ n → (x.length : Int) + 1 = n → 5 - n ≤ d → ∃ r i' h', Ev (fun k => spec_l7Draw.l0 k x n b i h) (r, i', h') ∧ curOk b i' ∧ x.length ≤ r.length ∧ r.length ≤ 4 := by
  intro d
  induction d with
  | zero =>
    intro x n i h hc hx hn hxn hd
    obtain ⟨u, i1, h1, e1, b1, c1⟩ := l1Below_some h (n := 4) (by omega) hc
    refine ⟨x, i1, h1, Ev.step (f := fun _ => some (x, i1, h1)) (fun k => ?_) (Ev.now _), c1, Nat.le_refl _, hx⟩
    simp only [spec_l7Draw.l0, e1, Option.bind_some]
    rw [wrapId (n := 1 + u) (by omega) (by omega), if_neg (by omega)]
  | succ d ih =>
    intro x n i h hc hx hn hxn hd
    obtain ⟨u, i1, h1, e1, b1, c1⟩ := l1Below_some h (n := 4) (by omega) hc
    by_cases q : n ≤ 1 + u
    · obtain ⟨v, i2, h2, e2, b2, c2⟩ := l1Below_some h1 (n := 20) (by omega) c1
      obtain ⟨w, i3, h3, e3, b3, c3⟩ := l1Below_some h2 (n := 3) (by omega) c2
      obtain ⟨y, i4, h4, e4, c4⟩ := l1Once_some h3 (n := 8) (by omega) c3
      obtain ⟨r, i5, h5, e5, c5, g0, g1⟩ := ih (x ++ [(⟨wrap64 (2 * n), wrap64 (5 + v), wrap64 (1 + w), y⟩ : S68)]) (n + 1) i4 h4 c4 (by simp; omega) (by omega) (by simp; omega) (by omega)
      refine ⟨r, i5, h5, Ev.step (fun k => ?_) e5, c5, by simp at g0; omega, g1⟩
      simp only [spec_l7Draw.l0, e1, e2, e3, e4, Option.bind_some]
      rw [wrapId (n := 1 + u) (by omega) (by omega), if_pos q, if_pos (by omega), wrapId (n := n + 1) (by omega) (by omega)]
    · refine ⟨x, i1, h1, Ev.step (f := fun _ => some (x, i1, h1)) (fun k => ?_) (Ev.now _), c1, Nat.le_refl _, hx⟩
      simp only [spec_l7Draw.l0, e1, Option.bind_some]
      rw [wrapId (n := 1 + u) (by omega) (by omega), if_neg q]
theorem l7Draw_first {b : List Int} {i : Int} (h : Int) (hc : curOk b i) : ∃ r i' h', Ev (fun k => spec_l7Draw.f k b i h) (r, i', h') ∧ curOk b i' ∧ 1 ≤ r.length ∧ r.length ≤ 4 := by
  obtain ⟨u, i1, h1, e1, b1, c1⟩ := l1Below_some h (n := 4) (by omega) hc
  obtain ⟨v, i2, h2, e2, b2, c2⟩ := l1Below_some h1 (n := 20) (by omega) c1
  obtain ⟨w, i3, h3, e3, b3, c3⟩ := l1Below_some h2 (n := 3) (by omega) c2
  obtain ⟨y, i4, h4, e4, c4⟩ := l1Once_some h3 (n := 8) (by omega) c3
  obtain ⟨r, i5, h5, e5, c5, g0, g1⟩ := l7Draw_ev 5 ([] ++ [(⟨wrap64 (2 * 1), wrap64 (5 + v), wrap64 (1 + w), y⟩ : S68)]) (1 + 1) i4 h4 c4 (by simp) (by omega) (by simp) (by omega)
  refine ⟨r, i5, h5, ?_, c5, by simp at g0; omega, g1⟩
  unfold spec_l7Draw.f
  refine Ev.step (fun k => ?_) e5
  simp only [spec_l7Draw.l0, e1, e2, e3, e4, Option.bind_some]
  rw [wrapId (n := 1 + u) (by omega) (by omega), if_pos (by omega), if_pos (by simp), wrapId (n := (1 : Int) + 1) (by omega) (by omega)]
theorem l7Any_ev {b : List Int} {i : Int} (h : Int) (hc : curOk b i) : ∃ r i' h', Ev (fun k => spec_l7Any.f k b i h) (r, i', h') ∧ curOk b i' ∧ r.length ≤ 4 := by
  unfold spec_l7Any.f
  obtain ⟨r, i1, h1, e1, c1, g0, g1⟩ := l7Draw_first h hc
  obtain ⟨u, i2, h2, e2, b2, c2⟩ := l1Below_some h1 (n := (r.length : Int)) (by omega) c1
  obtain ⟨v, i3, h3, e3, b3, c3⟩ := l1Below_some h2 (n := 12) (by omega) c2
  have fin : ∀ {q : List S68} {i' h' : Int} {f : Nat → List S68 × Int × Int → Option (List S68 × Int × Int)}, Ev (fun k => f k (r, i1, h1)) (q, i', h') → Ev (fun k => (spec_l7Draw.f k b i h).bind (f k)) (q, i', h') := fun z => Ev.bind e1 z
  by_cases q0 : v = 0
  · obtain ⟨w, i4, h4, e4, _, c4⟩ := l1Int_some h3 (l := [0, 2, 99, 100]) (by decide) c3
    refine ⟨r.set u.toNat ⟨w, (rd_T68 r u).f1, (rd_T68 r u).f2, (rd_T68 r u).f3⟩, i4, h4, fin ?_, c4, by simpa using g1⟩
    simp only [e2, e3, Option.bind_some, if_pos q0, e4, if_pos b2.1, if_pos b2.2]
    exact Ev.now _
  · by_cases q1 : v = 1
    · obtain ⟨w, i4, h4, e4, _, c4⟩ := l1Int_some h3 (l := [-1, 100, 101]) (by decide) c3
      refine ⟨r.set u.toNat ⟨(rd_T68 r u).f0, w, (rd_T68 r u).f2, (rd_T68 r u).f3⟩, i4, h4, fin ?_, c4, by simpa using g1⟩
      simp only [e2, e3, Option.bind_some, if_neg q0, if_pos q1, e4, if_pos b2.1, if_pos b2.2]
      exact Ev.now _
    · by_cases q2 : v = 2
      · obtain ⟨w, i4, h4, e4, _, c4⟩ := l1Int_some h3 (l := [0, 10, 11]) (by decide) c3
        refine ⟨r.set u.toNat ⟨(rd_T68 r u).f0, (rd_T68 r u).f1, w, (rd_T68 r u).f3⟩, i4, h4, fin ?_, c4, by simpa using g1⟩
        simp only [e2, e3, Option.bind_some, if_neg q0, if_neg q1, if_pos q2, e4, if_pos b2.1, if_pos b2.2]
        exact Ev.now _
      · by_cases q3 : v = 3
        · refine ⟨[], i3, h3, fin ?_, c3, by simp⟩
          simp only [e2, e3, Option.bind_some, if_neg q0, if_neg q1, if_neg q2, if_pos q3]
          exact Ev.now _
        · refine ⟨r, i3, h3, fin ?_, c3, g1⟩
          simp only [e2, e3, Option.bind_some, if_neg q0, if_neg q1, if_neg q2, if_neg q3]
          exact Ev.now _

theorem big_eq (l : List Int) : laws_big.f l = some (decide ((l.length : Int) > 1048576)) := rfl
theorem curStart {l : List Int} (hl : l.length ≤ 1048576) : curOk l 0 := by unfold curOk; omega

def inB (lo hi : Int) (l : List Int) : Bool := l.all (fun x => decide (lo ≤ x ∧ x ≤ hi))
theorem inB_iff {lo hi : Int} {l : List Int} : inB lo hi l = true ↔ ∀ x ∈ l, lo ≤ x ∧ x ≤ hi := by
  unfold inB
  simp only [List.all_eq_true, decide_eq_true_eq]
theorem inB_yes {lo hi x : Int} {t : List Int} (d : lo ≤ x ∧ x ≤ hi) : inB lo hi (x :: t) = inB lo hi t := by
  simp only [inB, List.all_cons, d, and_self, decide_true, Bool.true_and]
theorem inB_no {lo hi x : Int} {t : List Int} (d : ¬ (lo ≤ x ∧ x ≤ hi)) : inB lo hi (x :: t) = false := by
  simp only [inB, List.all_cons, d, decide_false, Bool.false_and]
/-- A land: its sides, its cells. -/
def landOk (w h : Int) (c : List Int) : Prop := ((1 ≤ w ∧ w ≤ 8) ∧ (1 ≤ h ∧ h ≤ 8)) ∧ (c.length : Int) = w * h ∧ ∀ x ∈ c, 0 ≤ x ∧ x ≤ 2
instance (w h : Int) (c : List Int) : Decidable (landOk w h c) := inferInstanceAs (Decidable (_ ∧ _))
def cellOk (w h : Int) (c : List Int) (n : Int) : Prop := landOk w h c ∧ 0 ≤ n ∧ n < (c.length : Int)
instance (w h : Int) (c : List Int) (n : Int) : Decidable (cellOk w h c n) := inferInstanceAs (Decidable (_ ∧ _))
def openOk (w h : Int) (c : List Int) (n : Int) : Prop := cellOk w h c n ∧ rd c n ≠ 2
instance (w h : Int) (c : List Int) (n : Int) : Decidable (openOk w h c n) := inferInstanceAs (Decidable (_ ∧ _))
theorem sideB {w h : Int} (hw : 1 ≤ w ∧ w ≤ 8) (hh : 1 ≤ h ∧ h ≤ 8) : 1 ≤ w * h ∧ w * h ≤ 64 := by
  have h0 : 1 * 1 ≤ w * h := Int.mul_le_mul hw.1 hh.1 (by omega) (by omega)
  have h1 : w * h ≤ 8 * 8 := Int.mul_le_mul hw.2 hh.2 (by omega) (by omega)
  omega
theorem landOk.len {w h : Int} {c : List Int} (x : landOk w h c) : 1 ≤ c.length ∧ c.length ≤ 64 := by
  have := sideB x.1.1 x.1.2
  have := x.2.1
  omega

def absI (x : Int) : Int := if x < 0 then -x else x
/-- How far two cells are from each other. -/
def apart (w h : Int) (c : List Int) (a b : Int) : Int := if cellOk w h c a ∧ cellOk w h c b then absI (a % w - b % w) + absI (a / w - b / w) else -1
theorem modB {w a : Int} (hw : 1 ≤ w ∧ w ≤ 8) (ha : 0 ≤ a) (h1 : a ≤ 64) : Int.tmod a w = a % w ∧ Int.tdiv a w = a / w ∧ 0 ≤ a % w ∧ a % w < 8 ∧ 0 ≤ a / w ∧ a / w ≤ 64 := by
  have e0 := Int.emod_nonneg a (show w ≠ 0 by omega)
  have e1 := Int.emod_lt_of_pos a (show 0 < w by omega)
  have e2 := Int.ediv_nonneg ha (show 0 ≤ w by omega)
  have e3 := Int.ediv_le_self w ha
  exact ⟨Int.tmod_eq_emod_of_nonneg ha, Int.tdiv_eq_ediv_of_nonneg ha, e0, by omega, e2, by omega⟩

/-- The open cells beside the cell n of a land, in the order above, left, right, below. -/
def nearS (w : Int) (c : List Int) (n : Int) : List Int :=
  (if w ≤ n ∧ rd c (n - w) ≠ 2 then [n - w] else []) ++ (if 0 < n % w ∧ rd c (n - 1) ≠ 2 then [n - 1] else []) ++ (if n % w < w - 1 ∧ rd c (n + 1) ≠ 2 then [n + 1] else []) ++ (if n + w < (c.length : Int) ∧ rd c (n + w) ≠ 2 then [n + w] else [])
theorem side8 {w : Int} (hw : 1 ≤ w ∧ w ≤ 8) : w = 1 ∨ w = 2 ∨ w = 3 ∨ w = 4 ∨ w = 5 ∨ w = 6 ∨ w = 7 ∨ w = 8 := by omega
theorem rowMul {w h n : Int} (hw : 1 ≤ w ∧ w ≤ 8) (hn : n < w * h) (hm : n % w < w - 1) : n + 1 < w * h := by
  rcases side8 hw with rfl | rfl | rfl | rfl | rfl | rfl | rfl | rfl <;> omega
theorem apart_up {w n : Int} (hw : 1 ≤ w ∧ w ≤ 8) : absI (n % w - (n - w) % w) + absI (n / w - (n - w) / w) = 1 := by
  unfold absI
  rcases side8 hw with rfl | rfl | rfl | rfl | rfl | rfl | rfl | rfl <;> (repeat' split) <;> omega
theorem apart_down {w n : Int} (hw : 1 ≤ w ∧ w ≤ 8) : absI (n % w - (n + w) % w) + absI (n / w - (n + w) / w) = 1 := by
  unfold absI
  rcases side8 hw with rfl | rfl | rfl | rfl | rfl | rfl | rfl | rfl <;> (repeat' split) <;> omega
theorem apart_left {w n : Int} (hw : 1 ≤ w ∧ w ≤ 8) (h2 : 2 ≤ w) : absI (n % w - (n - 1) % w) + absI (n / w - (n - 1) / w) = 1 ↔ 0 < n % w := by
  unfold absI
  rcases side8 hw with rfl | rfl | rfl | rfl | rfl | rfl | rfl | rfl <;> (repeat' split) <;> omega
theorem apart_right {w n : Int} (hw : 1 ≤ w ∧ w ≤ 8) (h2 : 2 ≤ w) : absI (n % w - (n + 1) % w) + absI (n / w - (n + 1) / w) = 1 ↔ n % w < w - 1 := by
  unfold absI
  rcases side8 hw with rfl | rfl | rfl | rfl | rfl | rfl | rfl | rfl <;> (repeat' split) <;> omega
/-- Beside each other is: one apart. -/
theorem beside {w a b : Int} (hw : 1 ≤ w ∧ w ≤ 8) : absI (a % w - b % w) + absI (a / w - b / w) = 1 ↔ (b = a - w ∨ (b = a - 1 ∧ 0 < a % w) ∨ (b = a + 1 ∧ a % w < w - 1) ∨ b = a + w) := by
  unfold absI
  rcases side8 hw with rfl | rfl | rfl | rfl | rfl | rfl | rfl | rfl <;> (repeat' split) <;> omega
theorem mem_nearS {w h : Int} {c : List Int} (hl : landOk w h c) {a b : Int} (ha : cellOk w h c a) : b ∈ nearS w c a ↔ (openOk w h c b ∧ apart w h c a b = 1) := by
  have hw := hl.1.1
  have ha1 := ha.2.1
  have ha2 := ha.2.2
  have hc := hl.2.1
  have key : (openOk w h c b ∧ apart w h c a b = 1) ↔ ((0 ≤ b ∧ b < (c.length : Int)) ∧ rd c b ≠ 2) ∧ (b = a - w ∨ (b = a - 1 ∧ 0 < a % w) ∨ (b = a + 1 ∧ a % w < w - 1) ∨ b = a + w) := by
    constructor
    · rintro ⟨ho, h1⟩
      unfold apart at h1
      rw [if_pos ⟨ha, ho.1⟩] at h1
      exact ⟨⟨ho.1.2, ho.2⟩, (beside hw).1 h1⟩
    · rintro ⟨⟨hb, hr⟩, h1⟩
      have hb' : cellOk w h c b := ⟨hl, hb⟩
      unfold apart
      rw [if_pos ⟨ha, hb'⟩]
      exact ⟨⟨hb', hr⟩, (beside hw).2 h1⟩
  rw [key]
  unfold nearS
  simp only [List.mem_append]
  have m1 : ∀ (p : Prop) [Decidable p] (x : Int), b ∈ (if p then [x] else []) ↔ p ∧ b = x := by
    intro p _ x
    by_cases q : p
    · simp [q]
    · simp [q]
  rw [m1, m1, m1, m1]
  constructor
  · rintro (((⟨⟨p, q⟩, rfl⟩ | ⟨⟨p, q⟩, rfl⟩) | ⟨⟨p, q⟩, rfl⟩) | ⟨⟨p, q⟩, rfl⟩)
    · exact ⟨⟨⟨by omega, by omega⟩, q⟩, .inl rfl⟩
    · have h0 : 0 < a := by
        rcases Int.lt_or_le 0 a with x | x
        · exact x
        · obtain rfl : a = 0 := by omega
          simp at p
      exact ⟨⟨⟨by omega, by omega⟩, q⟩, .inr (.inl ⟨rfl, p⟩)⟩
    · have := rowMul (h := h) hw (by omega) p
      exact ⟨⟨⟨by omega, by omega⟩, q⟩, .inr (.inr (.inl ⟨rfl, p⟩))⟩
    · exact ⟨⟨⟨by omega, by omega⟩, q⟩, .inr (.inr (.inr rfl))⟩
  · rintro ⟨⟨⟨p0, p1⟩, q⟩, (rfl | ⟨rfl, r⟩ | ⟨rfl, r⟩ | rfl)⟩
    · exact .inl (.inl (.inl ⟨⟨by omega, q⟩, rfl⟩))
    · exact .inl (.inl (.inr ⟨⟨r, q⟩, rfl⟩))
    · exact .inl (.inr ⟨⟨r, q⟩, rfl⟩)
    · exact .inr ⟨⟨p1, q⟩, rfl⟩
theorem absI_neg (x : Int) : absI (-x) = absI x := by
  unfold absI
  repeat' split
  all_goals omega
theorem apart_comm (w h : Int) (c : List Int) (a b : Int) : apart w h c a b = apart w h c b a := by
  unfold apart
  by_cases q : cellOk w h c a ∧ cellOk w h c b
  · rw [if_pos q, if_pos q.symm, ← absI_neg (a % w - b % w), ← absI_neg (a / w - b / w), show -(a % w - b % w) = b % w - a % w by omega, show -(a / w - b / w) = b / w - a / w by omega]
  · rw [if_neg q, if_neg (fun x => q x.symm)]
theorem nearS_len (w : Int) (c : List Int) (n : Int) : (nearS w c n).length ≤ 4 := by
  unfold nearS
  simp only [List.length_append]
  have l1 : ∀ (p : Prop) [Decidable p] (x : Int), (if p then [x] else []).length ≤ 1 := by
    intro p _ x
    by_cases q : p
    · simp [q]
    · simp [q]
  have := l1 (w ≤ n ∧ rd c (n - w) ≠ 2) (n - w)
  have := l1 (0 < n % w ∧ rd c (n - 1) ≠ 2) (n - 1)
  have := l1 (n % w < w - 1 ∧ rd c (n + 1) ≠ 2) (n + 1)
  have := l1 (n + w < (c.length : Int) ∧ rd c (n + w) ≠ 2) (n + w)
  omega

theorem rd_set {d : List Int} {u x y : Int} (hu : 0 ≤ u) (hu1 : u < (d.length : Int)) (hx : 0 ≤ x) : rd (d.set u.toNat y) x = if x = u then y else rd d x := by
  unfold rd
  by_cases e : x = u
  · subst e
    rw [if_pos rfl, List.getD_eq_getElem?_getD, List.getElem?_set_self (by omega)]
    rfl
  · rw [if_neg e, List.getD_eq_getElem?_getD, List.getD_eq_getElem?_getD, List.getElem?_set_ne (by omega)]
/-- How many numbers are below 0. -/
def negs (d : List Int) : Nat := (d.filter (fun x => decide (x < 0))).length
theorem negs_set : ∀ (d : List Int) (i : Nat) (y : Int), i < d.length → d.getD i 0 < 0 → 0 ≤ y → negs (d.set i y) + 1 = negs d
  | [], i, y, h, _, _ => by simp at h
  | x :: t, 0, y, _, hx, hy => by
    have hx' : x < 0 := by simpa using hx
    unfold negs
    rw [List.set_cons_zero, List.filter_cons, List.filter_cons, if_neg (by rw [decide_eq_true_eq]; omega), if_pos (by rw [decide_eq_true_eq]; omega), List.length_cons]
  | x :: t, i + 1, y, h, hx, hy => by
    have ih := negs_set t i y (by simpa using h) (by simpa using hx) hy
    unfold negs at ih ⊢
    rw [List.set_cons_succ, List.filter_cons, List.filter_cons]
    by_cases q : x < 0
    · rw [if_pos (decide_eq_true q), if_pos (decide_eq_true q), List.length_cons, List.length_cons]
      omega
    · rw [if_neg (by rw [decide_eq_true_eq]; exact q), if_neg (by rw [decide_eq_true_eq]; exact q)]
      exact ih
theorem negs_push {d : List Int} {u y : Int} (hu : 0 ≤ u) (hu1 : u < (d.length : Int)) (hn : rd d u < 0) (hy : 0 ≤ y) : negs (d.set u.toNat y) + 1 = negs d := negs_set d u.toNat y (by omega) hn hy
/-- The neighbours of v are gone over: those not seen yet get a number and are queued. -/
def relax (v : Int) : List Int → List Int × List Int → List Int × List Int
  | [], s => s
  | u :: t, s => relax v t (if rd s.1 u < 0 then (s.1.set u.toNat (rd s.1 v + 1), s.2 ++ [u]) else s)
def bfs (adj : Int → List Int) : Nat → List Int → List Int → List Int
  | 0, d, _ => d
  | _ + 1, d, [] => d
  | m + 1, d, v :: t => bfs adj m (relax v (adj v) (d, t)).1 (relax v (adj v) (d, t)).2
structure SI (N m : Nat) (d q : List Int) : Prop where
  len : d.length = N
  mea : 2 * negs d + q.length ≤ m
  qok : ∀ x ∈ q, (0 ≤ x ∧ x < (N : Int)) ∧ 0 ≤ rd d x
  top : ∀ x, 0 ≤ x → x < (N : Int) → rd d x ≤ 1000 - (m : Int)
structure RI (N m : Nat) (v dv : Int) (s : List Int × List Int) : Prop where
  si : SI N m s.1 s.2
  rdv : rd s.1 v = dv
theorem RI.start {N m : Nat} {d t : List Int} {v : Int} (h : SI N (m + 1) d (v :: t)) : RI N m v (rd d v) (d, t) := by
  refine ⟨⟨h.len, ?_, fun x hx => h.qok x (List.mem_cons_of_mem _ hx), fun x h0 h1 => ?_⟩, rfl⟩
  · have := h.mea
    simp only [List.length_cons] at this
    show 2 * negs d + t.length ≤ m
    omega
  · have := h.top x h0 h1
    show rd d x ≤ _
    omega
theorem RI.push {N m : Nat} {v dv u : Int} {s : List Int × List Int} (h : RI N m v dv s) (hv : 0 ≤ v ∧ v < (N : Int)) (hd : 0 ≤ dv) (hb : dv + 1 ≤ 1000 - (m : Int)) (hu : 0 ≤ u ∧ u < (N : Int)) (hn : rd s.1 u < 0) : RI N m v dv (s.1.set u.toNat (dv + 1), s.2 ++ [u]) := by
  have hl : u < (s.1.length : Int) := by rw [h.si.len]; exact hu.2
  have e : ∀ x, 0 ≤ x → rd (s.1.set u.toNat (dv + 1)) x = if x = u then dv + 1 else rd s.1 x := fun x hx => rd_set hu.1 hl hx
  refine ⟨⟨by rw [List.length_set]; exact h.si.len, ?_, fun x hx => ?_, fun x h0 h1 => ?_⟩, ?_⟩
  · have := negs_push (y := dv + 1) hu.1 hl hn (by omega)
    have := h.si.mea
    simp only [List.length_append, List.length_cons, List.length_nil]
    omega
  · have hr : 0 ≤ x ∧ x < (N : Int) := by
      rcases List.mem_append.1 hx with q | q
      · exact (h.si.qok x q).1
      · rw [List.mem_singleton] at q
        rw [q]
        exact hu
    refine ⟨hr, ?_⟩
    show 0 ≤ rd (s.1.set u.toNat (dv + 1)) x
    rw [e x hr.1]
    split
    · omega
    · rename_i ne
      rcases List.mem_append.1 hx with q | q
      · exact (h.si.qok x q).2
      · rw [List.mem_singleton] at q
        exact absurd q ne
  · show rd (s.1.set u.toNat (dv + 1)) x ≤ _
    rw [e x h0]
    split
    · omega
    · exact h.si.top x h0 h1
  · show rd (s.1.set u.toNat (dv + 1)) v = dv
    rw [e v hv.1, if_neg (fun z => by have := h.rdv; rw [z] at this; omega)]
    exact h.rdv
theorem relax_RI {N m : Nat} {v dv : Int} (hv : 0 ≤ v ∧ v < (N : Int)) (hd : 0 ≤ dv) (hb : dv + 1 ≤ 1000 - (m : Int)) : ∀ (nb : List Int) (s : List Int × List Int), (∀ u ∈ nb, 0 ≤ u ∧ u < (N : Int)) → RI N m v dv s → RI N m v dv (relax v nb s)
  | [], s, _, h => h
  | u :: t, s, hn, h => by
    simp only [relax]
    refine relax_RI hv hd hb t _ (fun x hx => hn x (List.mem_cons_of_mem _ hx)) ?_
    by_cases q : rd s.1 u < 0
    · rw [if_pos q, h.rdv]
      exact h.push hv hd hb (hn u List.mem_cons_self) q
    · rw [if_neg q]
      exact h
/-! ### What the numbers tell -/
/-- k is at most n steps from a source. -/
def Wk (adj : Int → List Int) (Src : Int → Prop) : Nat → Int → Prop
  | 0, k => Src k
  | n + 1, k => Wk adj Src n k ∨ ∃ j, Wk adj Src n j ∧ k ∈ adj j
theorem Wk.more {adj : Int → List Int} {Src : Int → Prop} {k : Int} {n : Nat} (h : Wk adj Src n k) : ∀ {m : Nat}, n ≤ m → Wk adj Src m k
  | 0, hm => by
    obtain rfl : n = 0 := by omega
    exact h
  | m + 1, hm => by
    rcases Nat.lt_or_ge n (m + 1) with q | q
    · exact .inl (Wk.more h (by omega))
    · obtain rfl : n = m + 1 := by omega
      exact h
theorem Wk.one {adj : Int → List Int} {Src : Int → Prop} : ∀ {n : Nat} {k : Int}, Wk adj Src n k ↔ ∃ a, Src a ∧ Wk adj (fun x => x = a) n k
  | 0, k => ⟨fun h => ⟨k, h, rfl⟩, fun ⟨a, h, e⟩ => by obtain rfl : k = a := e; exact h⟩
  | n + 1, k => by
    constructor
    · rintro (h | ⟨j, h, hk⟩)
      · obtain ⟨a, ha, hw⟩ := Wk.one.1 h
        exact ⟨a, ha, .inl hw⟩
      · obtain ⟨a, ha, hw⟩ := Wk.one.1 h
        exact ⟨a, ha, .inr ⟨j, hw, hk⟩⟩
    · rintro ⟨a, ha, (h | ⟨j, h, hk⟩)⟩
      · exact .inl (Wk.one.2 ⟨a, ha, h⟩)
      · exact .inr ⟨j, Wk.one.2 ⟨a, ha, h⟩, hk⟩
structure Inv (adj : Int → List Int) (N : Nat) (Src : Int → Prop) (d q : List Int) : Prop where
  src : ∀ x, 0 ≤ x → x < (N : Int) → Src x → rd d x = 0
  snd : ∀ x, 0 ≤ x → x < (N : Int) → 0 ≤ rd d x → Wk adj Src (rd d x).toNat x
  srt : q.Pairwise (fun x y => rd d x ≤ rd d y)
  top : ∀ x, 0 ≤ x → x < (N : Int) → ∀ y ∈ q, rd d x ≤ rd d y + 1
  fin : ∀ x, 0 ≤ x → x < (N : Int) → 0 ≤ rd d x → ¬ x ∈ q → ∀ u ∈ adj x, 0 ≤ rd d u ∧ rd d u ≤ rd d x + 1
structure In1 (adj : Int → List Int) (N : Nat) (Src : Int → Prop) (v dv : Int) (s : List Int × List Int) : Prop where
  src : ∀ x, 0 ≤ x → x < (N : Int) → Src x → rd s.1 x = 0
  snd : ∀ x, 0 ≤ x → x < (N : Int) → 0 ≤ rd s.1 x → Wk adj Src (rd s.1 x).toNat x
  srt : s.2.Pairwise (fun x y => rd s.1 x ≤ rd s.1 y)
  top : ∀ x, 0 ≤ x → x < (N : Int) → rd s.1 x ≤ dv + 1
  low : ∀ y ∈ s.2, dv ≤ rd s.1 y
  fin : ∀ x, 0 ≤ x → x < (N : Int) → 0 ≤ rd s.1 x → ¬ x ∈ s.2 → x ≠ v → ∀ u ∈ adj x, 0 ≤ rd s.1 u ∧ rd s.1 u ≤ rd s.1 x + 1
theorem In1.push {adj : Int → List Int} {N m : Nat} {Src : Int → Prop} {v dv u : Int} {s : List Int × List Int} (ha : ∀ x, 0 ≤ x → x < (N : Int) → ∀ y ∈ adj x, 0 ≤ y ∧ y < (N : Int)) (hr : RI N m v dv s) (h : In1 adj N Src v dv s) (hv : 0 ≤ v ∧ v < (N : Int)) (hd : 0 ≤ dv) (hu : u ∈ adj v) (hn : rd s.1 u < 0) : In1 adj N Src v dv (s.1.set u.toNat (dv + 1), s.2 ++ [u]) := by
  have hur := ha v hv.1 hv.2 u hu
  have hl : u < (s.1.length : Int) := by rw [hr.si.len]; exact hur.2
  have e : ∀ x, 0 ≤ x → rd (s.1.set u.toNat (dv + 1)) x = if x = u then dv + 1 else rd s.1 x := fun x hx => rd_set hur.1 hl hx
  have eu : rd (s.1.set u.toNat (dv + 1)) u = dv + 1 := by rw [e u hur.1, if_pos rfl]
  have ne : ∀ x, 0 ≤ x → 0 ≤ rd s.1 x → rd (s.1.set u.toNat (dv + 1)) x = rd s.1 x := by
    intro x hx h0
    rw [e x hx, if_neg]
    rintro rfl
    omega
  have q0 : ∀ x ∈ s.2, 0 ≤ x ∧ 0 ≤ rd s.1 x := fun x hx => ⟨(hr.si.qok x hx).1.1, (hr.si.qok x hx).2⟩
  refine ⟨fun x h0 h1 hs => ?_, fun x h0 h1 hx => ?_, ?_, fun x h0 h1 => ?_, fun y hy => ?_, fun x h0 h1 hx hq hxv y hy => ?_⟩
  · have := h.src x h0 h1 hs
    show rd (s.1.set u.toNat (dv + 1)) x = 0
    rw [ne x h0 (by omega), this]
  · show Wk adj Src (rd (s.1.set u.toNat (dv + 1)) x).toNat x
    by_cases c : x = u
    · subst c
      rw [eu]
      have wv := h.snd v hv.1 hv.2 (by rw [hr.rdv]; exact hd)
      rw [hr.rdv] at wv
      rw [show (dv + 1).toNat = dv.toNat + 1 by omega]
      exact .inr ⟨v, wv, hu⟩
    · have e1 : rd (s.1.set u.toNat (dv + 1)) x = rd s.1 x := by rw [e x h0, if_neg c]
      have hx' : 0 ≤ rd (s.1.set u.toNat (dv + 1)) x := hx
      rw [e1] at hx' ⊢
      exact h.snd x h0 h1 hx'
  · show (s.2 ++ [u]).Pairwise (fun x y => rd (s.1.set u.toNat (dv + 1)) x ≤ rd (s.1.set u.toNat (dv + 1)) y)
    rw [List.pairwise_append]
    refine ⟨h.srt.imp_of_mem (fun {a b} haq hbq hab => ?_), List.pairwise_singleton _ _, fun a haq b hb => ?_⟩
    · rw [ne a (q0 a haq).1 (q0 a haq).2, ne b (q0 b hbq).1 (q0 b hbq).2]
      exact hab
    · rw [List.mem_singleton] at hb
      rw [hb, eu, ne a (q0 a haq).1 (q0 a haq).2]
      exact h.top a (q0 a haq).1 (hr.si.qok a haq).1.2
  · show rd (s.1.set u.toNat (dv + 1)) x ≤ dv + 1
    rw [e x h0]
    split
    · omega
    · exact h.top x h0 h1
  · show dv ≤ rd (s.1.set u.toNat (dv + 1)) y
    rcases List.mem_append.1 hy with q | q
    · rw [ne y (q0 y q).1 (q0 y q).2]
      exact h.low y q
    · rw [List.mem_singleton] at q
      rw [q, eu]
      omega
  · show 0 ≤ rd (s.1.set u.toNat (dv + 1)) y ∧ rd (s.1.set u.toNat (dv + 1)) y ≤ rd (s.1.set u.toNat (dv + 1)) x + 1
    have hq1 : ¬ x ∈ s.2 := fun z => hq (List.mem_append_left _ z)
    have hxu : x ≠ u := fun z => hq (List.mem_append_right _ (by rw [List.mem_singleton]; exact z))
    have e1 : rd (s.1.set u.toNat (dv + 1)) x = rd s.1 x := by rw [e x h0, if_neg hxu]
    have hx' : 0 ≤ rd (s.1.set u.toNat (dv + 1)) x := hx
    rw [e1] at hx' ⊢
    have old := h.fin x h0 h1 hx' hq1 hxv y hy
    rw [ne y (ha x h0 h1 y hy).1 old.1]
    exact old
theorem relax_keep {N m : Nat} {v dv : Int} (hv : 0 ≤ v ∧ v < (N : Int)) (hd : 0 ≤ dv) (hb : dv + 1 ≤ 1000 - (m : Int)) : ∀ (nb : List Int) (s : List Int × List Int), (∀ u ∈ nb, 0 ≤ u ∧ u < (N : Int)) → RI N m v dv s → ∀ x, 0 ≤ x → 0 ≤ rd s.1 x → rd (relax v nb s).1 x = rd s.1 x
  | [], s, _, _, _, _, _ => rfl
  | u :: t, s, hn, h, x, h0, hx => by
    simp only [relax]
    have hu := hn u List.mem_cons_self
    by_cases q : rd s.1 u < 0
    · rw [if_pos q, h.rdv]
      have e := rd_set (y := dv + 1) hu.1 (show u < (s.1.length : Int) by rw [h.si.len]; exact hu.2) h0
      rw [if_neg (fun z => by rw [z] at hx; omega)] at e
      rw [relax_keep hv hd hb t _ (fun z hz => hn z (List.mem_cons_of_mem _ hz)) (h.push hv hd hb hu q) x h0 (by show 0 ≤ rd (s.1.set u.toNat (dv + 1)) x; rw [e]; exact hx)]
      exact e
    · rw [if_neg q]
      exact relax_keep hv hd hb t s (fun z hz => hn z (List.mem_cons_of_mem _ hz)) h x h0 hx
theorem relax_done {N m : Nat} {v dv : Int} (hv : 0 ≤ v ∧ v < (N : Int)) (hd : 0 ≤ dv) (hb : dv + 1 ≤ 1000 - (m : Int)) : ∀ (nb : List Int) (s : List Int × List Int), (∀ u ∈ nb, 0 ≤ u ∧ u < (N : Int)) → RI N m v dv s → ∀ x ∈ nb, 0 ≤ rd (relax v nb s).1 x
  | [], _, _, _, x, hx => by cases hx
  | u :: t, s, hn, h, x, hx => by
    have hu := hn u List.mem_cons_self
    have ht : ∀ z ∈ t, 0 ≤ z ∧ z < (N : Int) := fun z hz => hn z (List.mem_cons_of_mem _ hz)
    simp only [relax]
    by_cases q : rd s.1 u < 0
    · rw [if_pos q, h.rdv]
      have hp := h.push hv hd hb hu q
      rcases List.mem_cons.1 hx with rfl | hx
      · have e := rd_set (y := dv + 1) hu.1 (show x < (s.1.length : Int) by rw [h.si.len]; exact hu.2) hu.1
        rw [if_pos rfl] at e
        have := relax_keep hv hd hb t _ ht hp x hu.1 (by show 0 ≤ rd (s.1.set x.toNat (dv + 1)) x; rw [e]; omega)
        rw [this]
        show 0 ≤ rd (s.1.set x.toNat (dv + 1)) x
        rw [e]
        omega
      · exact relax_done hv hd hb t _ ht hp x hx
    · rw [if_neg q]
      rcases List.mem_cons.1 hx with rfl | hx
      · rw [relax_keep hv hd hb t s ht h x hu.1 (by omega)]
        omega
      · exact relax_done hv hd hb t s ht h x hx
theorem relax_In1 {adj : Int → List Int} {N m : Nat} {Src : Int → Prop} {v dv : Int} (ha : ∀ x, 0 ≤ x → x < (N : Int) → ∀ y ∈ adj x, 0 ≤ y ∧ y < (N : Int)) (hv : 0 ≤ v ∧ v < (N : Int)) (hd : 0 ≤ dv) (hb : dv + 1 ≤ 1000 - (m : Int)) : ∀ (nb : List Int) (s : List Int × List Int), (∀ u ∈ nb, u ∈ adj v) → RI N m v dv s → In1 adj N Src v dv s → In1 adj N Src v dv (relax v nb s)
  | [], s, _, _, h => h
  | u :: t, s, hn, hr, h => by
    simp only [relax]
    have hu := hn u List.mem_cons_self
    by_cases q : rd s.1 u < 0
    · rw [if_pos q, hr.rdv]
      exact relax_In1 ha hv hd hb t _ (fun x hx => hn x (List.mem_cons_of_mem _ hx)) (hr.push hv hd hb (ha v hv.1 hv.2 u hu) q) (h.push ha hr hv hd hu q)
    · rw [if_neg q]
      exact relax_In1 ha hv hd hb t s (fun x hx => hn x (List.mem_cons_of_mem _ hx)) hr h
theorem bfs_step {adj : Int → List Int} {N m : Nat} {Src : Int → Prop} {d t : List Int} {v : Int} (ha : ∀ x, 0 ≤ x → x < (N : Int) → ∀ y ∈ adj x, 0 ≤ y ∧ y < (N : Int)) (hs : SI N (m + 1) d (v :: t)) (h : Inv adj N Src d (v :: t)) :
    SI N m (relax v (adj v) (d, t)).1 (relax v (adj v) (d, t)).2 ∧ Inv adj N Src (relax v (adj v) (d, t)).1 (relax v (adj v) (d, t)).2 := by
  have hv := (hs.qok v List.mem_cons_self).1
  have hd := (hs.qok v List.mem_cons_self).2
  have hb : rd d v + 1 ≤ 1000 - (m : Int) := by
    have := hs.top v hv.1 hv.2
    omega
  have r0 := RI.start hs
  have hn := ha v hv.1 hv.2
  have r1 := relax_RI hv hd hb (adj v) (d, t) hn r0
  have dn := relax_done hv hd hb (adj v) (d, t) hn r0
  have srt := List.pairwise_cons.1 h.srt
  have i0 : In1 adj N Src v (rd d v) (d, t) := ⟨h.src, h.snd, srt.2, fun x h0 h1 => h.top x h0 h1 v List.mem_cons_self, fun y hy => srt.1 y hy, fun x h0 h1 hx hq hxv => h.fin x h0 h1 hx (fun z => by
    rcases List.mem_cons.1 z with e | e
    · exact hxv e
    · exact hq e)⟩
  have i1 := relax_In1 ha hv hd hb (adj v) (d, t) (fun _ hu => hu) r0 i0
  refine ⟨r1.si, i1.src, i1.snd, i1.srt, fun x h0 h1 y hy => ?_, fun x h0 h1 hx hq u hu => ?_⟩
  · have := i1.top x h0 h1
    have := i1.low y hy
    omega
  · by_cases c : x = v
    · subst c
      have := i1.top u (hn u hu).1 (hn u hu).2
      rw [r1.rdv]
      exact ⟨dn u hu, this⟩
    · exact i1.fin x h0 h1 hx hq c u hu
theorem bfs_inv {adj : Int → List Int} {N : Nat} {Src : Int → Prop} (ha : ∀ x, 0 ≤ x → x < (N : Int) → ∀ y ∈ adj x, 0 ≤ y ∧ y < (N : Int)) : ∀ (m : Nat) (d q : List Int), SI N m d q → Inv adj N Src d q → Inv adj N Src (bfs adj m d q) [] ∧ (bfs adj m d q).length = N ∧ ∀ x, 0 ≤ x → x < (N : Int) → rd (bfs adj m d q) x ≤ 1000
  | 0, d, q, hs, h => by
    have : q = [] := List.length_eq_zero_iff.1 (by have := hs.mea; omega)
    subst this
    exact ⟨h, hs.len, fun x h0 h1 => by have := hs.top x h0 h1; show rd d x ≤ 1000; omega⟩
  | m + 1, d, [], hs, h => ⟨h, hs.len, fun x h0 h1 => by have := hs.top x h0 h1; show rd d x ≤ 1000; omega⟩
  | m + 1, d, v :: t, hs, h => by
    obtain ⟨s1, h1⟩ := bfs_step ha hs h
    exact bfs_inv ha m _ _ s1 h1
/-- The numbers at the end: at most n just where n steps are enough. -/
theorem Inv.tells {adj : Int → List Int} {N : Nat} {Src : Int → Prop} {D : List Int} (ha : ∀ x, 0 ≤ x → x < (N : Int) → ∀ y ∈ adj x, 0 ≤ y ∧ y < (N : Int)) (hsrc : ∀ x, Src x → 0 ≤ x ∧ x < (N : Int)) (h : Inv adj N Src D []) : ∀ (n : Nat) (k : Int), 0 ≤ k → k < (N : Int) → ((0 ≤ rd D k ∧ rd D k ≤ (n : Int)) ↔ Wk adj Src n k) := by
  have up : ∀ (n : Nat) (k : Int), Wk adj Src n k → (0 ≤ k ∧ k < (N : Int)) ∧ 0 ≤ rd D k ∧ rd D k ≤ (n : Int) := by
    intro n
    induction n with
    | zero =>
      intro k hk
      have hr := hsrc k hk
      have := h.src k hr.1 hr.2 hk
      exact ⟨hr, by omega, by omega⟩
    | succ n ih =>
      rintro k (hk | ⟨j, hj, hk⟩)
      · have := ih k hk
        exact ⟨this.1, this.2.1, by have := this.2.2; omega⟩
      · have hj' := ih j hj
        have := h.fin j hj'.1.1 hj'.1.2 hj'.2.1 (by simp) k hk
        exact ⟨ha j hj'.1.1 hj'.1.2 k hk, this.1, by have := hj'.2.2; omega⟩
  intro n k h0 h1
  exact ⟨fun hk => (h.snd k h0 h1 hk.1).more (by omega), fun hk => (up n k hk).2⟩

theorem adj_in {w h : Int} {c : List Int} (hl : landOk w h c) : ∀ x, 0 ≤ x → x < (c.length : Int) → ∀ y ∈ nearS w c x, 0 ≤ y ∧ y < (c.length : Int) := fun x h0 h1 y hy => ((mem_nearS hl ⟨hl, h0, h1⟩).1 hy).1.1.2
/-- Where one begins: the open cells of a list, each once. -/
def seeds (w h : Int) (c : List Int) : List Int → List Int × List Int → List Int × List Int
  | [], s => s
  | a :: t, s => seeds w h c t (if openOk w h c a ∧ rd s.1 a < 0 then (s.1.set a.toNat 0, s.2 ++ [a]) else s)
structure Sd (w h : Int) (c : List Int) (S : Int → Prop) (s : List Int × List Int) : Prop where
  len : s.1.length = c.length
  mea : 2 * negs s.1 + s.2.length ≤ 2 * c.length
  all : ∀ x, 0 ≤ x → x < (c.length : Int) → (rd s.1 x = 0 ∧ x ∈ s.2 ∧ S x) ∨ (rd s.1 x = -1 ∧ ¬ x ∈ s.2)
  rng : ∀ x ∈ s.2, 0 ≤ x ∧ x < (c.length : Int)
theorem Sd.push {w h : Int} {c : List Int} {S : Int → Prop} {s : List Int × List Int} (hs : Sd w h c S s) {a : Int} (ho : openOk w h c a) (hS : S a) (hn : rd s.1 a < 0) : Sd w h c S (s.1.set a.toNat 0, s.2 ++ [a]) := by
  have hr := ho.1.2
  have hl : a < (s.1.length : Int) := by rw [hs.len]; exact hr.2
  have e : ∀ x, 0 ≤ x → rd (s.1.set a.toNat 0) x = if x = a then 0 else rd s.1 x := fun x hx => rd_set hr.1 hl hx
  refine ⟨by rw [List.length_set]; exact hs.len, ?_, fun x h0 h1 => ?_, fun x hx => ?_⟩
  · have := negs_push (y := 0) hr.1 hl hn (by omega)
    have := hs.mea
    simp only [List.length_append, List.length_cons, List.length_nil]
    omega
  · show (rd (s.1.set a.toNat 0) x = 0 ∧ x ∈ s.2 ++ [a] ∧ S x) ∨ (rd (s.1.set a.toNat 0) x = -1 ∧ ¬ x ∈ s.2 ++ [a])
    rw [e x h0, List.mem_append, List.mem_singleton]
    by_cases q : x = a
    · rw [if_pos q]
      exact .inl ⟨rfl, .inr q, by rw [q]; exact hS⟩
    · rw [if_neg q]
      rcases hs.all x h0 h1 with p | p
      · exact .inl ⟨p.1, .inl p.2.1, p.2.2⟩
      · exact .inr ⟨p.1, fun z => z.elim p.2 q⟩
  · rcases List.mem_append.1 hx with q | q
    · exact hs.rng x q
    · rw [List.mem_singleton] at q
      rw [q]
      exact hr
theorem seeds_Sd {w h : Int} {c : List Int} {S : Int → Prop} : ∀ (l : List Int) (s : List Int × List Int), (∀ a ∈ l, openOk w h c a → S a) → Sd w h c S s → Sd w h c S (seeds w h c l s) ∧ (∀ x, 0 ≤ x → rd s.1 x = 0 → rd (seeds w h c l s).1 x = 0) ∧ ∀ a ∈ l, openOk w h c a → rd (seeds w h c l s).1 a = 0
  | [], s, _, h => ⟨h, fun _ _ z => z, fun a ha => by cases ha⟩
  | a :: t, s, hS, hs => by
    simp only [seeds]
    by_cases q : openOk w h c a ∧ rd s.1 a < 0
    · rw [if_pos q]
      have hr := q.1.1.2
      have e : ∀ x, 0 ≤ x → rd (s.1.set a.toNat 0) x = if x = a then 0 else rd s.1 x := fun x hx => rd_set hr.1 (by rw [hs.len]; exact hr.2) hx
      obtain ⟨r0, r1, r2⟩ := seeds_Sd t _ (fun b hb => hS b (List.mem_cons_of_mem _ hb)) (hs.push q.1 (hS a List.mem_cons_self q.1) q.2)
      refine ⟨r0, fun x h0 hx => r1 x h0 ?_, fun b hb ho => ?_⟩
      · show rd (s.1.set a.toNat 0) x = 0
        rw [e x h0]
        split
        · rfl
        · exact hx
      · rcases List.mem_cons.1 hb with rfl | hb
        · refine r1 b hr.1 ?_
          show rd (s.1.set b.toNat 0) b = 0
          rw [e b hr.1, if_pos rfl]
        · exact r2 b hb ho
    · rw [if_neg q]
      obtain ⟨r0, r1, r2⟩ := seeds_Sd t s (fun b hb => hS b (List.mem_cons_of_mem _ hb)) hs
      refine ⟨r0, r1, fun b hb ho => ?_⟩
      rcases List.mem_cons.1 hb with rfl | hb
      · refine r1 b ho.1.2.1 ?_
        rcases hs.all b ho.1.2.1 ho.1.2.2 with p | p
        · exact p.1
        · exact absurd ⟨ho, by omega⟩ q
      · exact r2 b hb ho
def blank (c : List Int) : List Int × List Int := (List.replicate c.length (-1), [])
theorem blank_rd (c : List Int) (x : Int) (h0 : 0 ≤ x) (h1 : x < (c.length : Int)) : rd (blank c).1 x = -1 := by
  unfold rd blank
  rw [List.getD_eq_getElem?_getD, List.getElem?_replicate, if_pos (by omega)]
  rfl
theorem blank_Sd (w h : Int) (c : List Int) (S : Int → Prop) : Sd w h c S (blank c) := by
  refine ⟨by simp [blank], ?_, fun x h0 h1 => .inr ⟨blank_rd c x h0 h1, by simp [blank]⟩, fun x hx => by simp [blank] at hx⟩
  have : negs (blank c).1 ≤ (blank c).1.length := List.length_filter_le _ _
  simp only [blank, List.length_replicate, List.length_nil] at this ⊢
  omega
/-- The steps from the open cells of a list to each cell, -1 where there is no way. -/
def distS (w h : Int) (c : List Int) (l : List Int) : List Int := bfs (nearS w c) 200 (seeds w h c l (blank c)).1 (seeds w h c l (blank c)).2
def srcS (w h : Int) (c l : List Int) (a : Int) : Prop := a ∈ l ∧ openOk w h c a
theorem seeds_SI {w h : Int} {c : List Int} (hl : landOk w h c) (l : List Int) : SI c.length 200 (seeds w h c l (blank c)).1 (seeds w h c l (blank c)).2 := by
  obtain ⟨r0, -, -⟩ := seeds_Sd (S := srcS w h c l) l (blank c) (fun a ha ho => ⟨ha, ho⟩) (blank_Sd w h c _)
  have := hl.len
  refine ⟨r0.len, by have := r0.mea; omega, fun x hx => ⟨r0.rng x hx, ?_⟩, fun x h0 h1 => ?_⟩
  · rcases r0.all x (r0.rng x hx).1 (r0.rng x hx).2 with p | p
    · omega
    · exact absurd hx p.2
  · rcases r0.all x h0 h1 with p | p <;> omega
theorem seeds_Inv {w h : Int} {c : List Int} (hl : landOk w h c) (l : List Int) : Inv (nearS w c) c.length (srcS w h c l) (seeds w h c l (blank c)).1 (seeds w h c l (blank c)).2 := by
  obtain ⟨r0, -, r2⟩ := seeds_Sd (S := srcS w h c l) l (blank c) (fun a ha ho => ⟨ha, ho⟩) (blank_Sd w h c _)
  have z : ∀ x ∈ (seeds w h c l (blank c)).2, rd (seeds w h c l (blank c)).1 x = 0 := by
    intro x hx
    rcases r0.all x (r0.rng x hx).1 (r0.rng x hx).2 with p | p
    · exact p.1
    · exact absurd hx p.2
  refine ⟨fun x h0 h1 hs => r2 x hs.1 hs.2, fun x h0 h1 hx => ?_, ?_, fun x h0 h1 y hy => ?_, fun x h0 h1 hx hq => ?_⟩
  · rcases r0.all x h0 h1 with p | p
    · rw [p.1]
      exact p.2.2
    · omega
  · refine List.Pairwise.imp_of_mem (R := fun _ _ => True) (fun {a b} ha hb _ => ?_) (List.pairwise_of_forall (fun _ _ => trivial))
    rw [z a ha, z b hb]
    exact Int.le_refl _
  · rw [z y hy]
    rcases r0.all x h0 h1 with p | p <;> omega
  · rcases r0.all x h0 h1 with p | p
    · exact absurd p.2.1 hq
    · omega
theorem dist_tells {w h : Int} {c : List Int} (hl : landOk w h c) (l : List Int) (n : Nat) (k : Int) (h0 : 0 ≤ k) (h1 : k < (c.length : Int)) : (0 ≤ rd (distS w h c l) k ∧ rd (distS w h c l) k ≤ (n : Int)) ↔ Wk (nearS w c) (srcS w h c l) n k :=
  (bfs_inv (adj_in hl) 200 _ _ (seeds_SI hl l) (seeds_Inv hl l)).1.tells (adj_in hl) (fun x hx => hx.2.1.2) n k h0 h1
theorem dist_len {w h : Int} {c : List Int} (hl : landOk w h c) (l : List Int) : (distS w h c l).length = c.length := (bfs_inv (adj_in hl) 200 _ _ (seeds_SI hl l) (seeds_Inv hl l)).2.1
theorem dist_top {w h : Int} {c : List Int} (hl : landOk w h c) (l : List Int) (k : Int) (h0 : 0 ≤ k) (h1 : k < (c.length : Int)) : rd (distS w h c l) k ≤ 1000 := (bfs_inv (adj_in hl) 200 _ _ (seeds_SI hl l) (seeds_Inv hl l)).2.2 k h0 h1
/-- From one open cell. -/
theorem seeds_one {w h : Int} {c : List Int} {a : Int} (ho : openOk w h c a) : seeds w h c [a] (blank c) = ((blank c).1.set a.toNat 0, [a]) := by
  simp only [seeds]
  rw [if_pos ⟨ho, by rw [blank_rd c a ho.1.2.1 ho.1.2.2]; omega⟩]
  rfl

/-- The least number of steps from one cell to another, -1 where there is no way. -/
def daysS (w h : Int) (c : List Int) (a b : Int) : Int := if openOk w h c a ∧ openOk w h c b then rd (distS w h c [a]) b else -1

theorem l1In_eq (a b c : Int) : spec_l1In.f a b c = some (decide (b ≤ a ∧ a ≤ c)) := by
  unfold spec_l1In.f
  by_cases h : b ≤ a
  · rw [if_pos h]
    simp [h]
  · rw [if_neg h]
    simp [h]

theorem spec_IsLand_ev (w h : Int) (c : List Int) : Ev (fun k => spec_IsLand.f k w h c) (decide (landOk w h c)) := by
  have no : ∀ (q : ¬ landOk w h c), Ev (fun k => spec_IsLand.j0 k true w h c) (decide (landOk w h c)) := by
    intro q
    rw [decide_eq_false q]
    refine Ev.step (f := fun _ => some false) (fun k => ?_) (Ev.now _)
    simp only [spec_IsLand.j0, if_true]
  unfold spec_IsLand.f
  simp only [l1In_eq, Option.bind_some]
  by_cases c0 : 1 ≤ w ∧ w ≤ 8
  · refine evPos (decide_eq_true c0) ?_
    by_cases c1 : 1 ≤ h ∧ h ≤ 8
    · have sb := sideB c0 c1
      refine evPos (decide_eq_true c1) ?_
      rw [wrapId (n := w * h) (by omega) (by omega)]
      by_cases c2 : (c.length : Int) = w * h
      · rw [show ((c.length : Int) != w * h) = false by simp [c2], show decide (landOk w h c) = inB 0 2 c by rw [Bool.eq_iff_iff, decide_eq_true_eq, inB_iff]; exact ⟨fun x => x.2.2, fun x => ⟨⟨c0, c1⟩, c2, x⟩⟩]
        refine Ev.step (f := fun k => spec_IsLand.l0 k 0 w h c) (fun k => ?_) ?_
        · simp only [spec_IsLand.j0, Bool.false_eq_true, if_false]
        exact evScan c (fun k (_ : Unit) i => spec_IsLand.l0 k i w h c) (fun _ _ t => inB 0 2 t) (fun _ _ => True) (fun _ _ => by
          rw [show inB 0 2 [] = true from rfl]
          refine Ev.step (f := fun _ => some true) (fun k => ?_) (Ev.now _)
          simp only [spec_IsLand.l0]
          rw [if_neg (by omega)]) (fun _ i t hi _ _ ih => by
          have st : ∀ k, spec_IsLand.l0 (k + 1) (i : Int) w h c = if decide (0 ≤ c[i] ∧ c[i] ≤ 2) = true then spec_IsLand.l0 k ((i + 1 : Nat) : Int) w h c else some false := by
            intro k
            simp only [spec_IsLand.l0, l1In_eq, Option.bind_some]
            rw [if_pos (by omega), if_pos (by omega), rdIn hi, wrapSucc (by omega)]
          refine Ev.step st ?_
          by_cases d : 0 ≤ c[i] ∧ c[i] ≤ 2
          · refine evPos (decide_eq_true d) ?_
            rw [inB_yes d]
            exact ih () trivial
          · refine evNeg (by rw [decide_eq_true_eq]; exact d) ?_
            rw [inB_no d]
            exact Ev.now _)
          () trivial
      · rw [show ((c.length : Int) != w * h) = true by simp [c2]]
        exact no (fun x => c2 x.2.1)
    · exact evNeg (by rw [decide_eq_true_eq]; exact c1) (no (fun x => c1 x.1.2))
  · exact evNeg (by rw [decide_eq_true_eq]; exact c0) (no (fun x => c0 x.1.1))
theorem spec_IsCell_ev (w h : Int) (c : List Int) (n : Int) : Ev (fun k => spec_IsCell.f k w h c n) (decide (cellOk w h c n)) := by
  unfold spec_IsCell.f
  refine Ev.bind (spec_IsLand_ev w h c) ?_
  by_cases q : landOk w h c
  · refine evPos (decide_eq_true q) ?_
    have := q.len
    simp only [l1In_eq, Option.bind_some]
    rw [wrapId (n := (c.length : Int) - 1) (by omega) (by omega), show decide (cellOk w h c n) = decide (0 ≤ n ∧ n ≤ (c.length : Int) - 1) by rw [decide_eq_decide]; exact ⟨fun x => ⟨x.2.1, by have := x.2.2; omega⟩, fun x => ⟨q, x.1, by omega⟩⟩]
    exact Ev.now _
  · rw [decide_eq_false (fun x : cellOk w h c n => q x.1)]
    exact evNeg (by rw [decide_eq_true_eq]; exact q) (Ev.now _)

theorem spec_IsOpen_ev (w h : Int) (c : List Int) (n : Int) : Ev (fun k => spec_IsOpen.f k w h c n) (decide (openOk w h c n)) := by
  unfold spec_IsOpen.f
  refine Ev.bind (spec_IsCell_ev w h c n) ?_
  by_cases q : cellOk w h c n
  · refine evPos (decide_eq_true q) (evPos q.2.1 (evPos q.2.2 ?_))
    rw [show decide (openOk w h c n) = (rd c n != 2) by rw [Bool.eq_iff_iff, decide_eq_true_eq, bne_iff_ne]; exact ⟨fun x => x.2, fun x => ⟨q, x⟩⟩]
    exact Ev.now _
  · rw [decide_eq_false (fun x : openOk w h c n => q x.1)]
    exact evNeg (by rw [decide_eq_true_eq]; exact q) (Ev.now _)

theorem evAfter {α : Type} {g : Nat → Option α} {r : α} (n : Nat) (h : ∀ k, g (k + n) = some r) : Ev g r := ⟨n, fun k hk => by have := h (k - n); rwa [Nat.sub_add_cancel hk] at this⟩

theorem spec_l4Near_ev {w h : Int} {c : List Int} {n : Int} (hn : cellOk w h c n) : Ev (fun k => spec_l4Near.f k w h c n) (nearS w c n) := by
  have hw := hn.1.1.1
  have hc := hn.1.2.1
  have hlen := hn.1.len
  have h0 := hn.2.1
  have h1 := hn.2.2
  obtain ⟨me, -, m0, m1, -, -⟩ := modB hw h0 (by omega)
  have cond : ∀ (p : Prop) [Decidable p] (x m : Int), p → (if ((rd c x) != 2) = true then [m] else []) = (if p ∧ rd c x ≠ 2 then [m] else []) := by
    intro p _ x m hp
    by_cases q : rd c x = 2
    · rw [if_neg (by simp [q]), if_neg (fun z => z.2 q)]
    · rw [if_pos (by simp [q]), if_pos ⟨hp, q⟩]
  have ncond : ∀ (p : Prop) [Decidable p] (x m : Int), ¬ p → (if false = true then [m] else []) = (if p ∧ rd c x ≠ 2 then [m] else []) := by
    intro p _ x m hp
    rw [if_neg (by simp), if_neg (fun z => hp z.1)]
  have ten : ∀ (o : List Int) (b : Bool) (m : Int), (o ++ if b = true then [m] else []).length ≤ o.length + 1 := by
    intro o b m
    cases b <;> simp
  have j4 : ∀ (k : Nat) (o : List Int) (b : Bool), o.length ≤ 10 → spec_l4Near.j4 (k + 1) n o b w h c = some ((o ++ if b = true then [n + 1] else []) ++ if n + w < (c.length : Int) ∧ rd c (n + w) ≠ 2 then [n + w] else []) := by
    intro k o b ho
    simp only [spec_l4Near.j4]
    rw [wrapId (n := n + w) (by omega) (by omega), wrapId (n := n + 1) (by omega) (by omega), if_pos (show o.length < 17592186044416 by omega), if_pos (show o.length < 17592186044416 by omega)]
    simp only [Option.bind_some, if_pos (show (0 : Int) ≤ n + w by omega)]
    rw [if_pos (show (o ++ [n + 1]).length < 17592186044416 by simp; omega)]
    by_cases q : n + w < (c.length : Int)
    · by_cases r : rd c (n + w) = 2
      · cases b <;> simp [q, r]
      · cases b <;> simp [q, r]
    · cases b <;> simp [q]
  have j3 : ∀ (k : Nat) (o : List Int), o.length ≤ 10 → spec_l4Near.j3 (k + 2) n o w h c = some ((o ++ if n % w < w - 1 ∧ rd c (n + 1) ≠ 2 then [n + 1] else []) ++ if n + w < (c.length : Int) ∧ rd c (n + w) ≠ 2 then [n + w] else []) := by
    intro k o ho
    simp only [spec_l4Near.j3]
    rw [if_neg (show ¬ w = 0 by omega), me, wrapId (n := w - 1) (by omega) (by omega), wrapId (n := n + 1) (by omega) (by omega)]
    by_cases q : n % w < w - 1
    · have := rowMul (h := h) hw (by omega) q
      rw [if_pos q, if_pos (by omega), if_pos (by omega), j4 k o _ ho, cond _ _ _ q]
    · rw [if_neg q, j4 k o _ ho, ncond _ (n + 1) _ q]
  have j2 : ∀ (k : Nat) (o : List Int) (b : Bool), o.length ≤ 9 → spec_l4Near.j2 (k + 3) n o b w h c = some (((o ++ if b = true then [n - 1] else []) ++ if n % w < w - 1 ∧ rd c (n + 1) ≠ 2 then [n + 1] else []) ++ if n + w < (c.length : Int) ∧ rd c (n + w) ≠ 2 then [n + w] else []) := by
    intro k o b ho
    simp only [spec_l4Near.j2]
    rw [wrapId (n := n - 1) (by omega) (by omega), if_pos (show o.length < 17592186044416 by omega)]
    cases b with
    | true =>
      rw [if_pos rfl, if_pos rfl, j3 k _ (by simp; omega)]
    | false =>
      rw [if_neg (by simp), if_neg (by simp), j3 k _ (by omega), List.append_nil]
  have j1 : ∀ (k : Nat) (o : List Int), o.length ≤ 9 → spec_l4Near.j1 (k + 4) n o w h c = some (((o ++ if 0 < n % w ∧ rd c (n - 1) ≠ 2 then [n - 1] else []) ++ if n % w < w - 1 ∧ rd c (n + 1) ≠ 2 then [n + 1] else []) ++ if n + w < (c.length : Int) ∧ rd c (n + w) ≠ 2 then [n + w] else []) := by
    intro k o ho
    simp only [spec_l4Near.j1]
    rw [if_neg (show ¬ w = 0 by omega), me, wrapId (n := n - 1) (by omega) (by omega)]
    by_cases q : 0 < n % w
    · have hp : 0 < n := by
        rcases Int.lt_or_le 0 n with x | x
        · exact x
        · obtain rfl : n = 0 := by omega
          simp at q
      rw [if_pos (show n % w > 0 from q), if_pos (by omega), if_pos (by omega), j2 k o _ ho, cond _ _ _ q]
    · rw [if_neg (show ¬ n % w > 0 from q), j2 k o _ ho, ncond _ (n - 1) _ q]
  have j0 : ∀ (k : Nat) (o : List Int) (b : Bool), o.length ≤ 8 → spec_l4Near.j0 (k + 5) n o b w h c = some ((((o ++ if b = true then [n - w] else []) ++ if 0 < n % w ∧ rd c (n - 1) ≠ 2 then [n - 1] else []) ++ if n % w < w - 1 ∧ rd c (n + 1) ≠ 2 then [n + 1] else []) ++ if n + w < (c.length : Int) ∧ rd c (n + w) ≠ 2 then [n + w] else []) := by
    intro k o b ho
    simp only [spec_l4Near.j0]
    rw [wrapId (n := n - w) (by omega) (by omega), if_pos (show o.length < 17592186044416 by omega)]
    cases b with
    | true =>
      rw [if_pos rfl, if_pos rfl, j1 k _ (by simp; omega)]
    | false =>
      rw [if_neg (by simp), if_neg (by simp), j1 k _ (by omega), List.append_nil]
  refine evAfter 5 (fun k => ?_)
  simp only [spec_l4Near.f, Option.bind_some]
  rw [wrapId (n := n - w) (by omega) (by omega)]
  by_cases q : w ≤ n
  · rw [if_pos (show n ≥ w from q), if_pos (by omega), if_pos (by omega), j0 k [] _ (by simp), cond _ _ _ q, List.nil_append]
    rfl
  · rw [if_neg (show ¬ n ≥ w from q), j0 k [] _ (by simp), ncond _ (n - w) _ q, List.nil_append]
    rfl

theorem spec_bfs_ev {w h : Int} {c : List Int} (hl : landOk w h c) : ∀ (m : Nat) (d q pre : List Int), m ≤ 900 → pre.length + m ≤ 900 → SI c.length m d q → Ev (fun k => spec_l5From.l1 k d (pre ++ q) (pre.length : Int) w h c) (bfs (nearS w c) m d q) := by
  have hlen := hl.len
  have stop : ∀ d pre : List Int, Ev (fun k => spec_l5From.l1 k d (pre ++ []) (pre.length : Int) w h c) d := by
    intro d pre
    refine Ev.step (f := fun _ => some d) (fun k => ?_) (Ev.now _)
    simp only [spec_l5From.l1, List.append_nil]
    rw [if_neg (by omega)]
  intro m
  induction m with
  | zero =>
    intro d q pre hm hp hs
    have : q = [] := List.length_eq_zero_iff.1 (by have := hs.mea; omega)
    subst this
    exact stop d pre
  | succ m ih =>
    intro d q pre hm hp hs
    match q, hs with
    | [], _ => exact stop d pre
    | v :: t, hs =>
      have hv := (hs.qok v List.mem_cons_self).1
      have hd := (hs.qok v List.mem_cons_self).2
      have hb : rd d v + 1 ≤ 1000 - (m : Int) := by
        have := hs.top v hv.1 hv.2
        omega
      have hcell : cellOk w h c v := ⟨hl, hv⟩
      have rdq : ∀ t' : List Int, rd (pre ++ v :: t') (pre.length : Int) = v := by
        intro t'
        rw [rdAt, List.getD_eq_getElem?_getD, List.getElem?_append_right (Nat.le_refl _), Nat.sub_self]
        rfl
      have st : ∀ k, spec_l5From.l1 (k + 1) d (pre ++ v :: t) (pre.length : Int) w h c = (spec_l4Near.f k w h c v).bind fun nb => spec_l5From.l2 k d (pre ++ v :: t) (pre.length : Int) nb 0 w h c := by
        intro k
        simp only [spec_l5From.l1]
        rw [if_pos (show (pre.length : Int) < ((pre ++ v :: t).length : Int) by simp only [List.length_append, List.length_cons]; omega), if_pos (by omega), rdq]
      refine Ev.step st (Ev.bind (spec_l4Near_ev hcell) ?_)
      simp only [bfs]
      have hn := adj_in hl v hv.1 hv.2
      have h4 := nearS_len w c v
      generalize nearS w c v = nb at hn h4 ⊢
      exact evScan nb (fun k (s : List Int × List Int) j => spec_l5From.l2 k s.1 (pre ++ v :: s.2) (pre.length : Int) nb j w h c) (fun s _ r => bfs (nearS w c) m (relax v r s).1 (relax v r s).2) (fun s _ => RI c.length m v (rd d v) s) (fun s hr => by
          have := ih s.1 s.2 (pre ++ [v]) (by omega) (by simp only [List.length_append, List.length_cons, List.length_nil]; omega) hr.si
          rw [List.append_assoc, List.singleton_append] at this
          refine Ev.step (fun k => ?_) this
          simp only [spec_l5From.l2]
          rw [if_neg (by omega), wrapSucc (by omega)]
          simp) (fun s j r hj _ hr ih2 => by
          have hu := hn nb[j] (List.getElem_mem hj)
          have hlen1 := hr.si.len
          have hq : (pre ++ v :: s.2).length < 17592186044416 := by
            have := hr.si.mea
            simp only [List.length_append, List.length_cons]
            omega
          have st : ∀ k, spec_l5From.l2 (k + 1) s.1 (pre ++ v :: s.2) (pre.length : Int) nb (j : Int) w h c = if rd s.1 nb[j] < 0 then spec_l5From.l2 k (s.1.set nb[j].toNat (rd s.1 v + 1)) (pre ++ v :: (s.2 ++ [nb[j]])) (pre.length : Int) nb ((j + 1 : Nat) : Int) w h c else spec_l5From.l2 k s.1 (pre ++ v :: s.2) (pre.length : Int) nb ((j + 1 : Nat) : Int) w h c := by
            intro k
            simp only [spec_l5From.l2]
            rw [if_pos (by omega), if_pos (by omega), rdIn hj, if_pos hu.1, if_pos (show nb[j] < (s.1.length : Int) by omega), rdq, if_pos (show (0 : Int) ≤ (pre.length : Int) by omega), if_pos (show (pre.length : Int) < ((pre ++ v :: s.2).length : Int) by simp only [List.length_append, List.length_cons]; omega), if_pos hv.1, if_pos (show v < (s.1.length : Int) by omega), if_pos hq, wrapSucc (by omega), wrapId (n := rd s.1 v + 1) (by rw [hr.rdv]; omega) (by rw [hr.rdv]; omega), List.append_assoc, List.cons_append]
          refine Ev.step st ?_
          simp only [relax]
          by_cases g : rd s.1 nb[j] < 0
          · rw [if_pos g]
            refine evPos g ?_
            rw [hr.rdv]
            exact ih2 (s.1.set nb[j].toNat (rd d v + 1), s.2 ++ [nb[j]]) (hr.push hv hd hb hu g)
          · rw [if_neg g]
            exact evNeg g (ih2 s hr))
        (d, t) (RI.start hs)
theorem spec_l5From_ev {w h : Int} {c : List Int} {a : Int} (ho : openOk w h c a) : Ev (fun k => spec_l5From.f k w h c a) (distS w h c [a]) := by
  have hl := ho.1.1
  have hlen := hl.len
  have two : Ev (fun k => spec_l5From.l1 k ((blank c).1.set a.toNat 0) [a] 0 w h c) (distS w h c [a]) := by
    have si := seeds_SI hl [a]
    unfold distS
    rw [seeds_one ho] at si ⊢
    exact spec_bfs_ev hl 200 _ _ [] (by omega) (by simp) si
  unfold spec_l5From.f
  have key := evScan c (fun k (s : List Int) i => spec_l5From.l0 k a s i w h c) (fun _ _ _ => distS w h c [a]) (fun s i => s = List.replicate i (-1)) (fun s hs => by
      subst hs
      refine Ev.step (fun k => ?_) two
      simp only [spec_l5From.l0]
      rw [if_neg (by omega), if_pos ho.1.2.1, if_pos (show a < ((List.replicate c.length (-1 : Int)).length : Int) by simp only [List.length_replicate]; exact ho.1.2.2)]
      rfl) (fun s i t hi _ hs ih => by
      subst hs
      refine Ev.step (fun k => ?_) (ih (List.replicate (i + 1) (-1)) rfl)
      simp only [spec_l5From.l0]
      rw [if_pos (by omega), if_pos (show (List.replicate i (-1 : Int)).length < 17592186044416 by simp; omega), wrapSucc (by omega), List.replicate_succ'])
    [] rfl
  exact key

theorem spec_Days_ev (w h : Int) (c : List Int) (a b : Int) : Ev (fun k => spec_Days.f k w h c a b) (daysS w h c a b) := by
  unfold spec_Days.f daysS
  refine Ev.bind (spec_IsOpen_ev w h c a) ?_
  by_cases qa : openOk w h c a
  · refine evPos (decide_eq_true qa) (Ev.bind (spec_IsOpen_ev w h c b) ?_)
    by_cases qb : openOk w h c b
    · rw [if_pos ⟨qa, qb⟩]
      exact evPos (decide_eq_true qb) (Ev.bind (spec_l5From_ev qa) (evPos qb.1.2.1 (evPos (show b < ((distS w h c [a]).length : Int) by rw [dist_len qa.1.1]; exact qb.1.2.2) (Ev.now _))))
    · rw [if_neg (fun x => qb x.2)]
      exact evNeg (by rw [decide_eq_true_eq]; exact qb) (Ev.now _)
  · rw [if_neg (fun x => qa x.1)]
    exact evNeg (by rw [decide_eq_true_eq]; exact qa) (Ev.now _)

theorem l4Raw_some {b : List Int} {i : Int} (s : Int) (hc : curOk b i) : ∃ x i' s', spec_l4Raw.f b i s = some (x, i', s') ∧ curOk b i' := by
  unfold spec_l4Raw.f
  obtain ⟨x, i', s', e, _, c'⟩ := l1Int_some s (l := [(-1), 0, 8, 9, 64, 9223372036854775807, (-9223372036854775808)]) (by decide) hc
  rw [e]
  exact ⟨_, _, _, rfl, c'⟩
theorem l4Draw_loop {b : List Int} {w h : Int} (hw : 2 ≤ w ∧ w ≤ 6) (hh : 2 ≤ h ∧ h ≤ 5) (hp : 4 ≤ w * h ∧ w * h ≤ 30) : ∀ (d : Nat) (acc : List Int) (i s : Int), curOk b i → (acc.length : Int) + (d : Int) = w * h → (∀ x ∈ acc, 0 ≤ x ∧ x ≤ 2) →
    ∃ c i' s', Ev (fun k => spec_l4Draw.l0 k (acc.length : Int) b i s w h acc) (w, h, c, i', s') ∧ curOk b i' ∧ landOk w h c ∧ rd c 0 = 0 := by
  have wp : wrap64 (w * h) = w * h := wrapId (by omega) (by omega)
  intro d
  induction d with
  | zero =>
    intro acc i s hc hl ha
    have hpos : 0 < acc.length := by omega
    refine ⟨acc.set 0 0, i, s, Ev.step (f := fun _ => some (w, h, acc.set 0 0, i, s)) (fun k => ?_) (Ev.now _), hc, ⟨⟨⟨by omega, by omega⟩, ⟨by omega, by omega⟩⟩, by rw [List.length_set]; omega, fun x hx => ?_⟩, ?_⟩
    · simp only [spec_l4Draw.l0]
      rw [wp, if_neg (by omega), if_pos (by omega)]
      rfl
    · rcases List.mem_or_eq_of_mem_set hx with q | rfl
      · exact ha x q
      · omega
    · unfold rd
      rw [show (0 : Int).toNat = 0 from rfl, getD_lt (by rw [List.length_set]; exact hpos), List.getElem_set_self]
  | succ d ih =>
    intro acc i s hc hl ha
    obtain ⟨x, i1, s1, e1, m1, c1⟩ := l1Int_some s (l := [0, 0, 0, 0, 1, 2]) (by decide) hc
    have hx : 0 ≤ x ∧ x ≤ 2 := by
      simp only [List.mem_cons, List.not_mem_nil, or_false] at m1
      omega
    obtain ⟨c, i2, s2, e2, r⟩ := ih (acc ++ [x]) i1 s1 c1 (by rw [List.length_append, List.length_singleton]; omega) (fun y hy => by
      rcases List.mem_append.1 hy with q | q
      · exact ha y q
      · rw [List.mem_singleton] at q
        rw [q]
        exact hx)
    refine ⟨c, i2, s2, Ev.step (fun k => ?_) e2, r⟩
    simp only [spec_l4Draw.l0, e1, Option.bind_some]
    rw [wp, if_pos (by omega), if_pos (by omega), wrapSucc (by omega), List.length_append, List.length_singleton]
theorem l4Draw_ev {b : List Int} {i : Int} (s : Int) (hc : curOk b i) : ∃ w h c i' s', Ev (fun k => spec_l4Draw.f k b i s) (w, h, c, i', s') ∧ curOk b i' ∧ landOk w h c ∧ rd c 0 = 0 ∧ c.length ≤ 30 := by
  unfold spec_l4Draw.f
  obtain ⟨x, i1, s1, e1, b1, c1⟩ := l1Below_some s (n := 5) (by omega) hc
  obtain ⟨y, i2, s2, e2, b2, c2⟩ := l1Below_some s1 (n := 4) (by omega) c1
  have p0 : 2 * 2 ≤ (2 + x) * (2 + y) := Int.mul_le_mul (by omega) (by omega) (by omega) (by omega)
  have p1 : (2 + x) * (2 + y) ≤ 6 * 5 := Int.mul_le_mul (by omega) (by omega) (by omega) (by omega)
  obtain ⟨c, i3, s3, e3, c3, l3, z3⟩ := l4Draw_loop (w := 2 + x) (h := 2 + y) (by omega) (by omega) (by omega) ((2 + x) * (2 + y)).toNat [] i2 s2 c2 (by rw [List.length_nil]; omega) (fun x hx => by cases hx)
  have hl := l3.2.1
  refine ⟨_, _, c, i3, s3, ?_, c3, l3, z3, by omega⟩
  simp only [e1, e2, Option.bind_some]
  rw [wrapId (n := 2 + x) (by omega) (by omega), wrapId (n := 2 + y) (by omega) (by omega)]
  exact e3
theorem l4Any_ev {b : List Int} {i : Int} (s : Int) (hc : curOk b i) : ∃ w h c i' s', Ev (fun k => spec_l4Any.f k b i s) (w, h, c, i', s') ∧ curOk b i' ∧ c.length ≤ 30 := by
  unfold spec_l4Any.f
  obtain ⟨w, h, c, i1, s1, e1, c1, l1, _, n1⟩ := l4Draw_ev s hc
  obtain ⟨x, i2, s2, e2, b2, c2⟩ := l1Below_some s1 (n := 14) (by omega) c1
  have hl := l1.len
  by_cases q0 : x = 0
  · obtain ⟨u, i3, s3, e3, c3⟩ := l4Raw_some s2 c2
    refine ⟨u, h, c, i3, s3, Ev.bind e1 ?_, c3, n1⟩
    simp only [e2, Option.bind_some, if_pos q0, e3]
    exact Ev.now _
  · by_cases q1 : x = 1
    · obtain ⟨u, i3, s3, e3, c3⟩ := l4Raw_some s2 c2
      refine ⟨w, u, c, i3, s3, Ev.bind e1 ?_, c3, n1⟩
      simp only [e2, Option.bind_some, if_neg q0, if_pos q1, e3]
      exact Ev.now _
    · by_cases q2 : x = 2
      · obtain ⟨u, i3, s3, e3, _, c3⟩ := l1Int_some s2 (l := [(-1), 2, 3]) (by decide) c2
        refine ⟨w, h, c.set (0 : Int).toNat u, i3, s3, Ev.bind e1 ?_, c3, by rw [List.length_set]; exact n1⟩
        simp only [e2, Option.bind_some, if_neg q0, if_neg q1, if_pos q2, e3]
        exact evPos (by omega) (Ev.now _)
      · by_cases q3 : x = 3
        · refine ⟨w, h, c.drop (1 : Int).toNat, i2, s2, Ev.bind e1 ?_, c2, Nat.le_trans (by rw [List.length_drop]; omega) n1⟩
          simp only [e2, Option.bind_some, if_neg q0, if_neg q1, if_neg q2, if_pos q3]
          exact evPos (by omega) (Ev.now _)
        · refine ⟨w, h, c, i2, s2, Ev.bind e1 ?_, c2, n1⟩
          simp only [e2, Option.bind_some, if_neg q0, if_neg q1, if_neg q2, if_neg q3]
          exact Ev.now _

/-! ### A way, as the reference draws it -/
theorem wk_fore {adj : Int → List Int} {y j : Int} (hy : j ∈ adj y) : ∀ (n : Nat) (x : Int), Wk adj (fun z => z = j) n x → Wk adj (fun z => z = y) (n + 1) x
  | 0, x, h => by
    obtain rfl : x = j := h
    exact .inr ⟨y, rfl, hy⟩
  | n + 1, x, h => by
    rcases h with h | ⟨i, h, hx⟩
    · exact .inl (wk_fore hy n x h)
    · exact .inr ⟨i, wk_fore hy n i h, hx⟩
theorem near_comm {w h : Int} {c : List Int} (hl : landOk w h c) {a b : Int} (ha : openOk w h c a) (hb : b ∈ nearS w c a) : openOk w h c b ∧ a ∈ nearS w c b := by
  have q := (mem_nearS hl ha.1).1 hb
  exact ⟨q.1, (mem_nearS hl q.1.1).2 ⟨ha, by rw [apart_comm]; exact q.2⟩⟩
theorem wk_open {w h : Int} {c : List Int} (hl : landOk w h c) {x : Int} (hx : openOk w h c x) : ∀ (n : Nat) (y : Int), Wk (nearS w c) (fun z => z = x) n y → openOk w h c y
  | 0, y, e => by
    obtain rfl : y = x := e
    exact hx
  | n + 1, y, e => by
    rcases e with e | ⟨j, e, hy⟩
    · exact wk_open hl hx n y e
    · exact (near_comm hl (wk_open hl hx n j e) hy).1
theorem wk_back {w h : Int} {c : List Int} (hl : landOk w h c) {x : Int} (hx : openOk w h c x) : ∀ (n : Nat) (y : Int), Wk (nearS w c) (fun z => z = x) n y → Wk (nearS w c) (fun z => z = y) n x
  | 0, y, e => by
    obtain rfl : y = x := e
    exact rfl
  | n + 1, y, e => by
    rcases e with e | ⟨j, e, hy⟩
    · exact .inl (wk_back hl hx n y e)
    · exact wk_fore (near_comm hl (wk_open hl hx n j e) hy).2 n x (wk_back hl hx n j e)
theorem wk_src {w h : Int} {c : List Int} {b : Int} (hb : openOk w h c b) {n : Nat} {x : Int} : Wk (nearS w c) (srcS w h c [b]) n x ↔ Wk (nearS w c) (fun z => z = b) n x := by
  rw [Wk.one]
  constructor
  · rintro ⟨a, ha, e⟩
    obtain rfl : a = b := List.mem_singleton.1 ha.1
    exact e
  · intro e
    exact ⟨b, ⟨List.mem_singleton.2 rfl, hb⟩, e⟩
theorem dist_back {w h : Int} {c : List Int} {a b : Int} (ha : openOk w h c a) (hb : openOk w h c b) (hd : 0 ≤ rd (distS w h c [a]) b) : 0 ≤ rd (distS w h c [b]) a := by
  have hl := ha.1.1
  have t := (dist_tells hl [a] (rd (distS w h c [a]) b).toNat b hb.1.2.1 hb.1.2.2).1 ⟨hd, by omega⟩
  have r := wk_back hl ha _ _ ((wk_src ha).1 t)
  exact ((dist_tells hl [b] _ a ha.1.2.1 ha.1.2.2).2 ((wk_src hb).2 r)).1
/-- Beside a cell that is n + 1 steps from b there is one that is n steps from it. -/
theorem dist_down {w h : Int} {c : List Int} {b x : Int} {n : Nat} (hb : openOk w h c b) (hx : openOk w h c x) (hd : rd (distS w h c [b]) x = ((n + 1 : Nat) : Int)) : ∃ y ∈ nearS w c x, rd (distS w h c [b]) y = (n : Int) := by
  have hl := hb.1.1
  have up := (dist_tells hl [b] (n + 1) x hx.1.2.1 hx.1.2.2).1 ⟨by omega, by omega⟩
  rcases up with up | ⟨j, hj, hxj⟩
  · have := (dist_tells hl [b] n x hx.1.2.1 hx.1.2.2).2 up
    omega
  · have jo := wk_open hl hb n j ((wk_src hb).1 hj)
    have e := (dist_tells hl [b] n j jo.1.2.1 jo.1.2.2).2 hj
    refine ⟨j, (near_comm hl jo hxj).2, ?_⟩
    rcases Int.lt_or_le (rd (distS w h c [b]) j) (n : Int) with q | q
    · exfalso
      have k1 := (dist_tells hl [b] (rd (distS w h c [b]) j).toNat j jo.1.2.1 jo.1.2.2).1 ⟨e.1, by omega⟩
      have k2 : Wk (nearS w c) (srcS w h c [b]) ((rd (distS w h c [b]) j).toNat + 1) x := .inr ⟨j, k1, hxj⟩
      have k3 := (dist_tells hl [b] _ x hx.1.2.1 hx.1.2.2).2 k2
      omega
    · omega
theorem wayIn {w h b x : Int} {c way D nb : List Int} {n : Int} {P : List Int → Prop} (hnb : nb.length ≤ 4) (hin : ∀ y ∈ nb, 0 ≤ y ∧ y < (D.length : Int)) (hw : 1 ≤ way.length) (hw2 : way.length ≤ 2000) (hx : rd way ((way.length : Int) - 1) = x) (hx0 : 0 ≤ x ∧ x < (D.length : Int)) (hd : rd D x = n) (hn : 1 ≤ n ∧ n ≤ 1000)
    (hk : ∀ y ∈ nb, rd D y = n - 1 → Evp (fun k => spec_WayTo.l0 k y b (way ++ [y]) D w h c) P) : ∀ (i : Nat), i ≤ nb.length → ∀ cur : Int, ((∃ j, ∃ hj : j < nb.length, j < i ∧ rd D nb[j] = n - 1) ∨ (cur ∈ nb ∧ rd D cur = n - 1)) → Evp (fun k => spec_WayTo.l1 k cur b way D nb ((i : Int) - 1) w h c) P := by
  intro i
  induction i with
  | zero =>
    intro hi cur hc
    rcases hc with ⟨j, _, hj, _⟩ | ⟨hc, he⟩
    · omega
    · refine Evp.step (fun k => ?_) (hk cur hc he)
      simp only [spec_WayTo.l1]
      rw [if_neg (by omega), if_pos (by omega)]
  | succ i ih =>
    intro hi cur hc
    have hi' : i < nb.length := by omega
    have hu := hin nb[i] (List.getElem_mem hi')
    have w1 : wrap64 ((way.length : Int) - 1) = (way.length : Int) - 1 := wrapId (by omega) (by omega)
    have w2 : wrap64 (n - 1) = n - 1 := wrapId (by omega) (by omega)
    have w3 : wrap64 ((i : Int) - 1) = (i : Int) - 1 := wrapId (by omega) (by omega)
    have st : ∀ k, spec_WayTo.l1 (k + 1) cur b way D nb (((i + 1 : Nat) : Int) - 1) w h c = if rd D nb[i] = n - 1 then spec_WayTo.l1 k nb[i] b way D nb ((i : Int) - 1) w h c else spec_WayTo.l1 k cur b way D nb ((i : Int) - 1) w h c := by
      intro k
      simp only [spec_WayTo.l1]
      rw [show ((i + 1 : Nat) : Int) - 1 = (i : Int) by omega, rdIn hi', w1, hx, hd, w2, w3, if_pos (show (i : Int) ≥ 0 by omega), if_pos (show 0 ≤ (i : Int) by omega), if_pos (show (i : Int) < (nb.length : Int) by omega), if_pos hu.1, if_pos hu.2, if_pos (show 0 ≤ (way.length : Int) - 1 by omega), if_pos (show (way.length : Int) - 1 < (way.length : Int) by omega), if_pos hx0.1, if_pos hx0.2]
    refine Evp.step st (Evp.ite (fun q => ih (by omega) nb[i] (.inr ⟨List.getElem_mem hi', q⟩)) (fun q => ih (by omega) cur ?_))
    rcases hc with ⟨j, hj, hji, hjd⟩ | hc
    · by_cases e : j = i
      · subst e
        exact absurd hjd q
      · exact .inl ⟨j, hj, by omega, hjd⟩
    · exact .inr hc
theorem wayOut {w h b : Int} {c : List Int} (hb : openOk w h c b) : ∀ (n : Nat) (x : Int) (way : List Int), openOk w h c x → rd (distS w h c [b]) x = (n : Int) → 1 ≤ way.length → way.length + n ≤ 1001 → rd way ((way.length : Int) - 1) = x → Evp (fun k => spec_WayTo.l0 k x b way (distS w h c [b]) w h c) (fun r => r.length ≤ 1001) := by
  have hl := hb.1.1
  have dl := dist_len hl [b]
  intro n
  induction n with
  | zero =>
    intro x way hx hd h1 h2 hr
    have t := (dist_tells hl [b] 0 x hx.1.2.1 hx.1.2.2).1 ⟨by omega, by omega⟩
    obtain rfl : x = b := List.mem_singleton.1 t.1
    refine Evp.step (f := fun _ => some way) (fun k => ?_) (Evp.now (by omega))
    simp only [spec_WayTo.l0, if_true]
  | succ n ih =>
    intro x way hx hd h1 h2 hr
    have nb : ¬ x = b := by
      rintro rfl
      have := (dist_tells hl [x] 0 x hx.1.2.1 hx.1.2.2).2 ⟨List.mem_singleton.2 rfl, hx⟩
      omega
    obtain ⟨y, hy, he⟩ := dist_down hb hx hd
    have hlen := nearS_len w c x
    obtain ⟨j, hj, rfl⟩ := List.getElem_of_mem hy
    have key := wayIn (P := fun r => r.length ≤ 1001) (w := w) (h := h) (b := b) (x := x) (c := c) (way := way) (D := distS w h c [b]) (nb := nearS w c x) (n := ((n + 1 : Nat) : Int)) hlen (fun z hz => by rw [dl]; exact adj_in hl x hx.1.2.1 hx.1.2.2 z hz) h1 (by omega) hr (by rw [dl]; exact hx.1.2) hd (by omega) (fun z hz hzd => ih z (way ++ [z]) (near_comm hl hx hz).1 (by omega) (by simp) (by simp only [List.length_append, List.length_singleton]; omega) (by
        rw [List.length_append, List.length_singleton, show ((way.length + 1 : Nat) : Int) - 1 = (way.length : Int) by omega, rdIn (by simp)]
        simp)) (nearS w c x).length (Nat.le_refl _) x (.inl ⟨j, hj, hj, by omega⟩)
    refine Evp.step (f := fun k => (spec_l4Near.f k w h c x).bind fun t => spec_WayTo.l1 k x b way (distS w h c [b]) t (wrap64 ((t.length : Int) - 1)) w h c) (fun k => ?_) (Evp.bindE (spec_l4Near_ev hx.1) ?_)
    · simp only [spec_WayTo.l0]
      rw [if_neg nb]
    · rw [wrapId (n := ((nearS w c x).length : Int) - 1) (by omega) (by omega)]
      exact key
theorem spec_WayTo_ev (w h : Int) (c : List Int) (a b : Int) : Evp (fun k => spec_WayTo.f k w h c a b) (fun r => r.length ≤ 1001) := by
  unfold spec_WayTo.f
  simp only [Option.bind_some]
  refine Evp.bindE (spec_Days_ev w h c a b) ?_
  by_cases q : daysS w h c a b < 0
  · exact Evp.pos q (Evp.now (by simp))
  · refine Evp.neg q ?_
    unfold daysS at q
    by_cases o : openOk w h c a ∧ openOk w h c b
    · rw [if_pos o] at q
      have d := dist_back o.1 o.2 (by omega)
      have top := dist_top o.1.1.1 [b] a o.1.1.2.1 o.1.1.2.2
      refine Evp.bindE (spec_l5From_ev o.2) (Evp.pos (by simp) ?_)
      exact wayOut o.2 (rd (distS w h c [b]) a).toNat a ([] ++ [a]) o.1 (by omega) (by simp) (by simp; omega) (by simp [rd])
    · rw [if_neg o] at q
      omega
theorem l1Below_more {b : List Int} {i : Int} (h : Int) {n : Int} (hn : 1 ≤ n ∧ n ≤ 100000) (hc : curOk b i) : ∃ x i' h', spec_l1Below.f b i h n = some (x, i', h') ∧ (0 ≤ x ∧ x < n) ∧ curOk b i' := by
  by_cases q : n ≤ 256
  · exact l1Below_some h ⟨hn.1, q⟩ hc
  · unfold spec_l1Below.f
    obtain ⟨x, i1, h1, e1, b1, c1⟩ := l1Byte_some h hc
    obtain ⟨y, i2, h2, e2, b2, c2⟩ := l1Byte_some h1 c1
    obtain ⟨z, i3, h3, e3, b3, c3⟩ := l1Byte_some h2 c2
    rw [if_neg (by omega), if_neg q]
    simp only [e1, e2, e3, Option.bind_some]
    rw [if_neg (by omega), wrapId (n := x * 65536) (by omega) (by omega), wrapId (n := y * 256) (by omega) (by omega), wrapId (n := x * 65536 + y * 256) (by omega) (by omega), wrapId (n := x * 65536 + y * 256 + z) (by omega) (by omega), Int.tmod_eq_emod_of_nonneg (by omega)]
    exact ⟨_, _, _, rfl, ⟨Int.emod_nonneg _ (by omega), Int.emod_lt_of_pos _ (by omega)⟩, c3⟩
theorem DrawApart_ev {l : List Int} (hl : l.length ≤ 1048576) : ∃ w h c a b, Ev (fun k => spec_DrawApart.f k l) (w, h, c, a, b) := by
  unfold spec_DrawApart.f spec_DrawIsCell.f
  obtain ⟨s, e0⟩ := l1New_ev hl
  obtain ⟨w, h, c, i1, s1, e1, c1, n1⟩ := l4Any_ev s (curStart hl)
  obtain ⟨x, i2, s2, e2, b2, c2⟩ := l1Below_some s1 (n := 30) (by omega) c1
  obtain ⟨y, i3, s3, e3, b3, c3⟩ := l1Below_some s2 (n := 30) (by omega) c2
  obtain ⟨z, i4, s4, e4, c4⟩ := l4Raw_some s3 c3
  obtain ⟨a, i5, s5, e5, _, c5⟩ := l1Int_some s4 (l := [x, y, 0, z]) (by simp) c4
  obtain ⟨b, i6, s6, e6, b6, c6⟩ := l1Below_some s (n := 30) (by omega) (curStart hl)
  refine ⟨w, h, c, a, b, Ev.bind (a := (w, h, c, a)) (Ev.bind e0 (Ev.bind e1 ?_)) (Ev.bind e0 ?_)⟩
  · simp only [e2, e3, e4, e5, Option.bind_some]
    exact Ev.now _
  · simp only [e6, Option.bind_some]
    exact Ev.now _
theorem DrawIsWay_ev {l : List Int} (hl : l.length ≤ 1048576) : ∃ w h c m, Ev (fun k => spec_DrawIsWay.f k l) (w, h, c, m) ∧ m.length ≤ 1001 := by
  unfold spec_DrawIsWay.f
  obtain ⟨w, h, c, a, b, e0⟩ := DrawApart_ev hl
  obtain ⟨m, e1, hm⟩ := spec_WayTo_ev w h c a b
  obtain ⟨s, e2⟩ := l1New_ev hl
  have jn : ∀ (q : Bool) (i s : Int), curOk l i → (q = true → 0 < m.length) → ∃ m', Ev (fun k => spec_DrawIsWay.j0 k m q w h c l i s) (w, h, c, m') ∧ m'.length ≤ 1001 := by
    intro q i s hc hq
    cases q with
    | true =>
      have hq := hq rfl
      obtain ⟨x, i1, s1, e3, b3, c3⟩ := l1Below_more s (n := (m.length : Int)) (by omega) hc
      obtain ⟨y, i2, s2, e4, b4, c4⟩ := l1Below_some s1 (n := 30) (by omega) c3
      refine ⟨m.set x.toNat y, Ev.step (f := fun _ => some (w, h, c, m.set x.toNat y)) (fun k => ?_) (Ev.now _), by rw [List.length_set]; exact hm⟩
      simp only [spec_DrawIsWay.j0, if_true, e3, e4, Option.bind_some]
      rw [if_pos b3.1, if_pos b3.2]
    | false =>
      refine ⟨m, Ev.step (f := fun _ => some (w, h, c, m)) (fun k => ?_) (Ev.now _), hm⟩
      simp only [spec_DrawIsWay.j0, Bool.false_eq_true, if_false]
  by_cases q : (m.length : Int) > 0
  · obtain ⟨o, i1, s1, e3, c3⟩ := l1Once_some s (n := 3) (by omega) (curStart hl)
    obtain ⟨m', e4, h4⟩ := jn o i1 s1 c3 (fun _ => by omega)
    refine ⟨w, h, c, m', Ev.bind e0 (Ev.bind e1 (Ev.bind e2 (evPos q ?_))), h4⟩
    simp only [e3, Option.bind_some]
    exact e4
  · obtain ⟨m', e4, h4⟩ := jn false 0 s (curStart hl) (fun z => by cases z)
    exact ⟨w, h, c, m', Ev.bind e0 (Ev.bind e1 (Ev.bind e2 (evNeg q e4))), h4⟩

def okM (m : S68) : Bool := decide ((1 ≤ m.f0 ∧ m.f0 ≤ 99) ∧ (0 ≤ m.f1 ∧ m.f1 ≤ 100) ∧ (1 ≤ m.f2 ∧ m.f2 ≤ 10))
/-- Members of a crew, behind one whose number is p. -/
def crewFrom : Int → List S68 → Bool
  | _, [] => true
  | p, m :: t => okM m && (decide (p < m.f0) && crewFrom m.f0 t)
def areCrew (l : List S68) : Bool := crewFrom 0 l && decide (1 ≤ l.length ∧ l.length ≤ 8)
def prevId (l : List S68) (i : Nat) : Int := if i = 0 then 0 else (l.getD (i - 1) z68).f0
theorem prevId_succ {l : List S68} {i : Nat} (h : i < l.length) : prevId l (i + 1) = l[i].f0 := by
  unfold prevId
  rw [if_neg (by omega), Nat.add_sub_cancel, getD_lt h]
theorem prevId_pos {l : List S68} {i : Nat} (hl : l.length ≤ 100000000) (h : i ≤ l.length) (h0 : 0 < i) : prevId l i = (rd_T68 l (wrap64 ((i : Int) - 1))).f0 := by
  rw [wrapId (n := (i : Int) - 1) (by omega) (by omega), show ((i : Int) - 1) = ((i - 1 : Nat) : Int) by omega, rdM (by omega)]
  unfold prevId
  rw [if_neg (by omega), getD_lt (by omega)]
theorem crewFrom_ok : ∀ {l : List S68} {p : Int}, crewFrom p l = true → ∀ m ∈ l, okM m = true
  | [], _, _, m, h => by cases h
  | x :: t, p, e, m, h => by
    simp only [crewFrom, Bool.and_eq_true] at e
    rcases List.mem_cons.1 h with rfl | h
    · exact e.1
    · exact crewFrom_ok e.2.2 m h
theorem areCrew_len {l : List S68} (e : areCrew l = true) : 1 ≤ l.length ∧ l.length ≤ 8 := by
  unfold areCrew at e
  simp only [Bool.and_eq_true, decide_eq_true_eq] at e
  exact e.2
theorem areCrew_ok {l : List S68} (e : areCrew l = true) : ∀ m ∈ l, (1 ≤ m.f0 ∧ m.f0 ≤ 99) ∧ (0 ≤ m.f1 ∧ m.f1 ≤ 100) ∧ (1 ≤ m.f2 ∧ m.f2 ≤ 10) := by
  intro m hm
  unfold areCrew at e
  simp only [Bool.and_eq_true] at e
  have := crewFrom_ok e.1 m hm
  unfold okM at this
  exact of_decide_eq_true this

def healthy (l : List S68) : List Int := (l.filter (fun m => !m.f3)).map (·.f0)
theorem healthy_len (l : List S68) : (healthy l).length ≤ l.length := by
  unfold healthy
  rw [List.length_map]
  exact List.length_filter_le _ _
theorem impl_Healthy_ev {l : List S68} (hl : l.length ≤ 100000000) : Ev (fun k => impl_Healthy.f k l) (healthy l) := by
  have key := evScan l (fun k (acc : List Int) i => impl_Healthy.l0 k acc l (l.length : Int) i) (fun acc i t => acc ++ healthy t) (fun acc i => acc.length ≤ i) (fun acc _ => by
      rw [show acc ++ healthy [] = acc by simp [healthy]]
      refine Ev.step (f := fun _ => some acc) (fun k => ?_) (Ev.now _)
      simp only [impl_Healthy.l0]
      rw [if_neg (by omega)]) (fun acc i t h _ hi ih => by
      have st : ∀ k, impl_Healthy.l0 (k + 1) acc l (l.length : Int) (i : Int) = if l[i].f3 = true then impl_Healthy.l0 k acc l (l.length : Int) ((i + 1 : Nat) : Int) else impl_Healthy.l0 k (acc ++ [l[i].f0]) l (l.length : Int) ((i + 1 : Nat) : Int) := by
        intro k
        simp only [impl_Healthy.l0]
        rw [if_pos (by omega), if_pos (by omega), if_pos (by omega), rdM h, wrapSucc (by omega), if_pos (show acc.length < 17592186044416 by omega)]
      refine Ev.step st ?_
      by_cases d : l[i].f3 = true
      · refine evPos d ?_
        have := ih acc (by omega)
        simpa [healthy, d] using this
      · refine evNeg d ?_
        have := ih (acc ++ [l[i].f0]) (by simp; omega)
        simpa [healthy, d] using this)
    [] (by simp)
  unfold impl_Healthy.f
  simpa using key

/-- How those who are well are divided. -/
def ropeTeams : List Int → List (List Int)
  | [a, b] => [[a, b]]
  | [a, b, c] => [[a, b, c]]
  | [a, b, c, d] => [[a, b], [c, d]]
  | [a, b, c, d, e] => [[a, b, c], [d, e]]
  | [a, b, c, d, e, f] => [[a, b, c], [d, e, f]]
  | [a, b, c, d, e, f, g] => [[a, b, c], [d, e], [f, g]]
  | [a, b, c, d, e, f, g, h] => [[a, b, c], [d, e, f], [g, h]]
  | _ => []
def ropesOf (l : List S68) : List (List Int) := if areCrew l = true ∧ 2 ≤ (healthy l).length then ropeTeams (healthy l) else []
theorem listUpTo8 {p : List Int → Prop} (h : List Int) (h2 : 2 ≤ h.length) (h8 : h.length ≤ 8) (q2 : ∀ a b, p [a, b]) (q3 : ∀ a b c, p [a, b, c]) (q4 : ∀ a b c d, p [a, b, c, d]) (q5 : ∀ a b c d e, p [a, b, c, d, e])
    (q6 : ∀ a b c d e f, p [a, b, c, d, e, f]) (q7 : ∀ a b c d e f g, p [a, b, c, d, e, f, g]) (q8 : ∀ a b c d e f g i, p [a, b, c, d, e, f, g, i]) : p h := by
  match h, h2, h8 with
  | [a, b], _, _ => exact q2 a b
  | [a, b, c], _, _ => exact q3 a b c
  | [a, b, c, d], _, _ => exact q4 a b c d
  | [a, b, c, d, e], _, _ => exact q5 a b c d e
  | [a, b, c, d, e, f], _, _ => exact q6 a b c d e f
  | [a, b, c, d, e, f, g], _, _ => exact q7 a b c d e f g
  | [a, b, c, d, e, f, g, i], _, _ => exact q8 a b c d e f g i
  | _ :: _ :: _ :: _ :: _ :: _ :: _ :: _ :: _ :: _, _, x => simp at x
theorem ropesOf_pos (l : List S68) : decide (((ropesOf l).length : Int) > 0) = decide (areCrew l = true ∧ 2 ≤ (healthy l).length) := by
  unfold ropesOf
  by_cases c : areCrew l = true ∧ 2 ≤ (healthy l).length
  · rw [if_pos c, decide_eq_true c, decide_eq_true_eq]
    have h8 : (healthy l).length ≤ 8 := Nat.le_trans (healthy_len l) (areCrew_len c.1).2
    refine listUpTo8 (p := fun h => ((ropeTeams h).length : Int) > 0) (healthy l) c.2 h8 ?_ ?_ ?_ ?_ ?_ ?_ ?_
    all_goals
      intros
      simp [ropeTeams]
  · rw [if_neg c, decide_eq_false c]
    simp

theorem inRange_eq (a b c : Int) : impl_InRange.f a b c = some (decide (b ≤ a ∧ a ≤ c)) := by
  unfold impl_InRange.f
  by_cases h : b ≤ a
  · rw [if_pos h]
    simp [h]
  · rw [if_neg h]
    simp [h]

theorem impl_AreCrew_ev {l : List S68} (hl : l.length ≤ 100000000) : Ev (fun k => impl_AreCrew.f k l) (areCrew l) := by
  have key := evScan l (fun k (_ : Unit) i => impl_AreCrew.l0 k l l (l.length : Int) i) (fun _ i t => crewFrom (prevId l i) t && decide (1 ≤ l.length ∧ l.length ≤ 8)) (fun _ _ => True) (fun _ _ => by
      refine Ev.step (f := fun _ => some (decide (1 ≤ l.length ∧ l.length ≤ 8))) (fun k => ?_) ?_
      · simp only [impl_AreCrew.l0, inRange_eq, Option.bind_some]
        rw [if_neg (by omega), Option.some.injEq, decide_eq_decide]
        omega
      · simp only [crewFrom, Bool.true_and]
        exact Ev.now _) (fun _ i t h ht _ ih => by
      have ih := ih () trivial
      rw [prevId_succ h] at ih
      have st : ∀ k, impl_AreCrew.l0 (k + 1) l l (l.length : Int) (i : Int) = if okM l[i] = true ∧ prevId l i < l[i].f0 then impl_AreCrew.l0 k l l (l.length : Int) ((i + 1 : Nat) : Int) else some false := by
        intro k
        simp only [impl_AreCrew.l0, inRange_eq, Option.bind_some]
        rw [if_pos (by omega), if_pos (by omega), if_pos (by omega), rdM h, wrapSucc (by omega)]
        unfold okM
        by_cases c0 : 1 ≤ l[i].f0 ∧ l[i].f0 ≤ 99
        · by_cases c1 : 0 < i
          · rw [← prevId_pos hl (by omega) c1]
            have w1 : wrap64 ((i : Int) - 1) = ((i - 1 : Nat) : Int) := by rw [wrapId (n := (i : Int) - 1) (by omega) (by omega)]; omega
            rw [w1]
            have g1 : (i : Int) > 0 := by omega
            have g2 : (0 : Int) ≤ ((i - 1 : Nat) : Int) := by omega
            have g3 : ((i - 1 : Nat) : Int) < (l.length : Int) := by omega
            by_cases c2 : l[i].f0 ≤ prevId l i
            · have n2 : ¬ prevId l i < l[i].f0 := by omega
              simp only [c0, and_self, decide_true, if_true, if_pos g1, if_pos g2, if_pos g3, if_pos c2, n2, and_false, if_false]
            · have n2 : prevId l i < l[i].f0 := by omega
              by_cases c3 : 0 ≤ l[i].f1 ∧ l[i].f1 ≤ 100
              · by_cases c4 : 1 ≤ l[i].f2 ∧ l[i].f2 ≤ 10
                · simp only [c0, c3, c4, and_self, decide_true, if_true, if_pos g1, if_pos g2, if_pos g3, if_neg c2, n2]
                · simp only [c0, c3, c4, and_self, decide_true, decide_false, if_true, if_false, Bool.false_eq_true, if_pos g1, if_pos g2, if_pos g3, if_neg c2, and_false, false_and]
              · simp only [c0, c3, and_self, decide_true, decide_false, if_true, if_false, Bool.false_eq_true, if_pos g1, if_pos g2, if_pos g3, if_neg c2, and_false, false_and]
          · have g1 : ¬ ((i : Int) > 0) := by omega
            have n2 : prevId l i < l[i].f0 := by
              unfold prevId
              rw [if_pos (by omega)]
              omega
            by_cases c3 : 0 ≤ l[i].f1 ∧ l[i].f1 ≤ 100
            · by_cases c4 : 1 ≤ l[i].f2 ∧ l[i].f2 ≤ 10
              · simp only [c0, c3, c4, and_self, decide_true, if_true, if_neg g1, n2]
              · simp only [c0, c3, c4, and_self, decide_true, decide_false, if_true, if_false, Bool.false_eq_true, if_neg g1, and_false, false_and]
            · simp only [c0, c3, and_self, decide_true, decide_false, if_true, if_false, Bool.false_eq_true, if_neg g1, and_false, false_and]
        · simp [c0]
      refine Ev.step st ?_
      by_cases c : okM l[i] = true ∧ prevId l i < l[i].f0
      · refine evPos c ?_
        simp only [crewFrom, c.1, c.2, decide_true, Bool.true_and]
        exact ih
      · refine evNeg c ?_
        have e : crewFrom (prevId l i) (l[i] :: t) = false := by
          simp only [crewFrom]
          by_cases d : okM l[i] = true
          · have n : ¬ prevId l i < l[i].f0 := fun x => c ⟨d, x⟩
            simp [n]
          · simp [d]
        rw [e, Bool.false_and]
        exact Ev.now _)
    () trivial
  unfold impl_AreCrew.f
  exact key

theorem impl_RopeTeams_ev {l : List S68} (hl : l.length ≤ 100000000) : Ev (fun k => impl_RopeTeams.f k l) (ropesOf l) := by
  unfold impl_RopeTeams.f ropesOf
  refine Ev.bind (impl_Healthy_ev hl) (Ev.bind (impl_AreCrew_ev hl) ?_)
  by_cases c : areCrew l = true
  · refine evPos c ?_
    by_cases d : 2 ≤ (healthy l).length
    · rw [if_pos ⟨c, d⟩, decide_eq_false (by omega)]
      have h8 : (healthy l).length ≤ 8 := Nat.le_trans (healthy_len l) (areCrew_len c).2
      refine listUpTo8 (p := fun h => Ev (fun k => impl_RopeTeams.j0 k h false) (ropeTeams h)) (healthy l) d h8 ?_ ?_ ?_ ?_ ?_ ?_ ?_
      all_goals
        intros
        refine evAfter 5 (fun k => ?_)
        simp [impl_RopeTeams.j0, impl_RopeTeams.l0, impl_copyOf.f, ropeTeams]
    · rw [if_neg (fun x => d x.2), decide_eq_true (by omega)]
      refine Ev.step (f := fun _ => some []) (fun k => ?_) (Ev.now _)
      simp only [impl_RopeTeams.j0, if_true]
  · rw [if_neg (fun x => c x.1)]
    refine evNeg c (Ev.step (f := fun _ => some []) (fun k => ?_) (Ev.now _))
    simp only [impl_RopeTeams.j0, if_true]

/-- The index of the first member of that number, the first of the list standing at i; -1 if there is none. -/
def findM (n : Int) : Nat → List S68 → Int
  | _, [] => -1
  | i, m :: t => if m.f0 = n then (i : Int) else findM n (i + 1) t
theorem findM_lt (n : Int) : ∀ (t : List S68) (i : Nat), findM n i t = -1 ∨ ((i : Int) ≤ findM n i t ∧ findM n i t < (i : Int) + (t.length : Int))
  | [], i => .inl rfl
  | m :: t, i => by
    simp only [findM, List.length_cons]
    split
    · right
      omega
    · rcases findM_lt n t (i + 1) with e | e
      · exact .inl e
      · right
        omega

theorem evTo {α : Type} {g : Nat → Option α} {r r' : α} (h : Ev g r) (e : r = r') : Ev g r' := e ▸ h
def teamGo (P : Int → Bool) : List Int → List Int → Option (List Int)
  | s, [] => some s
  | s, n :: t => if P n = true ∧ ¬ n ∈ s then teamGo P (s ++ [n]) t else none
def teamsGo (P : Int → Bool) : List Int → List (List Int) → Bool
  | _, [] => true
  | s, m :: t => if 2 ≤ m.length ∧ m.length ≤ 3 then (match teamGo P s m with | some r => teamsGo P r t | none => false) else false
def wellA (l : List S68) (n : Int) : Bool := decide (n ∈ healthy l)
def wellB (l : List S68) (n : Int) : Bool := decide (0 ≤ findM n 0 l) && !(l.getD (findM n 0 l).toNat z68).f3
theorem crewFrom_lt : ∀ {l : List S68} {p : Int}, crewFrom p l = true → ∀ m ∈ l, p < m.f0
  | [], _, _, m, h => by cases h
  | x :: t, p, e, m, h => by
    simp only [crewFrom, Bool.and_eq_true, decide_eq_true_eq] at e
    rcases List.mem_cons.1 h with rfl | h
    · exact e.2.1
    · have := crewFrom_lt e.2.2 m h
      omega
theorem wellAB (n : Int) : ∀ (t : List S68) (p : Int) (i : Nat), crewFrom p t = true →
    (n ∈ healthy t ↔ ∃ j, j < t.length ∧ findM n i t = ((i + j : Nat) : Int) ∧ (t.getD j z68).f3 = false)
  | [], p, i, _ => by simp [healthy]
  | m :: t, p, i, e => by
    have e' := e
    simp only [crewFrom, Bool.and_eq_true, decide_eq_true_eq] at e
    have ih := wellAB n t m.f0 (i + 1) e.2.2
    simp only [findM]
    by_cases c : m.f0 = n
    · rw [if_pos c]
      have no : ¬ n ∈ healthy t := by
        intro h
        unfold healthy at h
        obtain ⟨x, hx, hn⟩ := List.mem_map.1 h
        have := crewFrom_lt e.2.2 x (List.mem_filter.1 hx).1
        omega
      have hm : n ∈ healthy (m :: t) ↔ m.f3 = false := by
        unfold healthy at no ⊢
        rw [List.filter_cons]
        by_cases d : m.f3 = false
        · rw [if_pos (by simp [d]), List.map_cons]
          simp [c, d]
        · rw [if_neg (by simpa using d)]
          exact ⟨fun h => absurd h no, fun h => absurd h d⟩
      rw [hm]
      constructor
      · intro d
        exact ⟨0, by simp, by simp, by simpa using d⟩
      · rintro ⟨j, hj, hi, d⟩
        obtain rfl : j = 0 := by omega
        simpa using d
    · rw [if_neg c]
      have hm : n ∈ healthy (m :: t) ↔ n ∈ healthy t := by
        unfold healthy
        rw [List.filter_cons]
        have c' : ¬ n = m.f0 := fun x => c x.symm
        split
        · simp [c']
        · rfl
      rw [hm, ih]
      constructor
      · rintro ⟨j, hj, hi, d⟩
        exact ⟨j + 1, by simp only [List.length_cons]; omega, by omega, by simpa using d⟩
      · rintro ⟨j, hj, hi, d⟩
        cases j with
        | zero =>
          rcases findM_lt n t (i + 1) with h | h
          · omega
          · omega
        | succ j => exact ⟨j, by simp only [List.length_cons] at hj; omega, by omega, by simpa using d⟩
theorem well_same {l : List S68} (h : areCrew l = true) (n : Int) : wellA l n = wellB l n := by
  unfold areCrew at h
  rw [Bool.and_eq_true] at h
  have key := wellAB n l 0 0 h.1
  unfold wellA wellB
  rw [Bool.eq_iff_iff, decide_eq_true_eq, key]
  simp only [Bool.and_eq_true, decide_eq_true_eq, Nat.zero_add, Bool.not_eq_true']
  constructor
  · rintro ⟨j, hj, hi, d⟩
    rw [hi, toNatCast]
    exact ⟨by omega, d⟩
  · rintro ⟨h0, d⟩
    rcases findM_lt n l 0 with e | e
    · omega
    · exact ⟨(findM n 0 l).toNat, by omega, by omega, d⟩
theorem teamGo_same {P Q : Int → Bool} (h : ∀ n, P n = Q n) : ∀ (t s : List Int), teamGo P s t = teamGo Q s t
  | [], _ => rfl
  | n :: t, s => by
    simp only [teamGo, h n]
    split
    · exact teamGo_same h t _
    · rfl
theorem teamsGo_same {P Q : Int → Bool} (h : ∀ n, P n = Q n) : ∀ (t : List (List Int)) (s : List Int), teamsGo P s t = teamsGo Q s t
  | [], _ => rfl
  | m :: t, s => by
    simp only [teamsGo, teamGo_same h]
    split
    · split
      · exact teamsGo_same h t _
      · rfl
    · rfl
theorem roped_same (l : List S68) (ts : List (List Int)) : (teamsGo (wellA l) [] ts && areCrew l) = (teamsGo (wellB l) [] ts && areCrew l) := by
  by_cases c : areCrew l = true
  · rw [teamsGo_same (well_same c)]
  · rw [Bool.not_eq_true] at c
    rw [c, Bool.and_false, Bool.and_false]
/-- The inner loop, as a whole: what it comes to, by what follows behind it. -/
theorem teamScan (P : Int → Bool) (m : List Int) (l : Nat → List Int → Int → Option Bool) (G : List Int → Bool) (n : Nat)
    (hend : ∀ s, s.length ≤ n + m.length → Ev (fun k => l k s (m.length : Int)) (G s))
    (hstep : ∀ s i (h : i < m.length), s.length ≤ n + i → (P m[i] = true → ¬ m[i] ∈ s → Ev (fun k => l k (s ++ [m[i]]) ((i + 1 : Nat) : Int)) (match teamGo P (s ++ [m[i]]) (m.drop (i + 1)) with | some r => G r | none => false)) → Ev (fun k => l k s (i : Int)) (if P m[i] = true ∧ ¬ m[i] ∈ s then (match teamGo P (s ++ [m[i]]) (m.drop (i + 1)) with | some r => G r | none => false) else false)) :
    ∀ s, s.length ≤ n → Ev (fun k => l k s 0) (match teamGo P s m with | some r => G r | none => false) := by
  have key := evScan m l (fun s _ t => match teamGo P s t with | some r => G r | none => false) (fun s i => s.length ≤ n + i) (fun s hs => by simpa only [teamGo] using hend s hs) (fun s i t h ht hs ih => by
      have := hstep s i h hs (fun _ _ => by
        have q := ih (s ++ [m[i]]) (by simp only [List.length_append, List.length_cons, List.length_nil]; omega)
        rwa [ht] at q)
      rw [ht]
      simp only [teamGo]
      by_cases c : P m[i] = true ∧ ¬ m[i] ∈ s
      · rw [if_pos c] at this ⊢
        exact this
      · rw [if_neg c] at this ⊢
        exact this)
  intro s hs
  exact key s (by omega)

/-- The index of a number in a list of which the first stands at i; -1 if it is not there. -/
def placeS (n : Int) : Nat → List Int → Int
  | _, [] => -1
  | i, y :: t => if y = n then (i : Int) else placeS n (i + 1) t
theorem placeS_mem (n : Int) : ∀ (t : List Int) (i : Nat), (0 ≤ placeS n i t) ↔ n ∈ t
  | [], i => by simp [placeS]
  | y :: t, i => by
    simp only [placeS]
    by_cases c : y = n
    · simp [c]
    · have c' : ¬ n = y := fun e => c e.symm
      rw [if_neg c, placeS_mem n t (i + 1)]
      simp [c']
theorem placeOf_ev {l : List Int} (n : Int) (hl : l.length ≤ 100000000) : Ev (fun k => impl_placeOf.f k l n) (placeS n 0 l) := by
  have key := evScan l (fun k (_ : Unit) i => impl_placeOf.l0 k n l (l.length : Int) i) (fun _ i t => placeS n i t) (fun _ _ => True) (fun _ _ => by
      refine Ev.step (f := fun _ => some (-1)) (fun k => ?_) (Ev.now _)
      simp only [impl_placeOf.l0]
      rw [if_neg (by omega)]) (fun _ i t h ht _ ih => by
      have st : ∀ k, impl_placeOf.l0 (k + 1) n l (l.length : Int) (i : Int) = if l[i] = n then some (i : Int) else impl_placeOf.l0 k n l (l.length : Int) ((i + 1 : Nat) : Int) := by
        intro k
        simp only [impl_placeOf.l0]
        rw [if_pos (by omega), if_pos (by omega), if_pos (by omega), rdIn h, wrapSucc (by omega)]
      refine Ev.step st ?_
      simp only [placeS]
      by_cases c : l[i] = n
      · rw [if_pos c]
        exact evPos c (Ev.now _)
      · rw [if_neg c]
        exact evNeg c (ih () trivial))
    () trivial
  unfold impl_placeOf.f
  exact key
theorem has_ev {l : List Int} (n : Int) (hl : l.length ≤ 100000000) : Ev (fun k => impl_has.f k l n) (decide (n ∈ l)) := by
  unfold impl_has.f
  refine Ev.bind (placeOf_ev n hl) ?_
  simp only [ge_iff_le, placeS_mem]
  exact Ev.now _

theorem rdL {xs : List (List Int)} {i : Nat} (h : i < xs.length) : rd_L3 xs (i : Int) = xs[i] := by
  unfold rd_L3
  rw [Int.toNat_natCast, getD_lt h]

theorem impl_AreRoped_ev {l : List S68} {ts : List (List Int)} (hl : l.length ≤ 100000000) (ht : ts.length ≤ 30000000) : Ev (fun k => impl_AreRoped.f k l ts) (teamsGo (wellA l) [] ts && areCrew l) := by
  unfold impl_AreRoped.f
  refine Ev.bind (impl_Healthy_ev hl) ?_
  have hh : (healthy l).length ≤ 100000000 := Nat.le_trans (healthy_len l) hl
  exact evScan ts (fun k (s : List Int) i => impl_AreRoped.l0 k l s (healthy l) ts (ts.length : Int) i) (fun s _ t => teamsGo (wellA l) s t && areCrew l) (fun s i => s.length ≤ 3 * i) (fun s _ => by
      simp only [teamsGo, Bool.true_and]
      refine Ev.step (f := fun k => (impl_AreCrew.f k l).bind fun z => some z) (fun k => ?_) (Ev.bind (impl_AreCrew_ev hl) (Ev.now _))
      simp only [impl_AreRoped.l0]
      rw [if_neg (by omega)]) (fun s i t h hd hs ih => by
      refine Ev.step (f := fun k => if decide ((2 : Int) ≤ (ts[i].length : Int) ∧ (ts[i].length : Int) ≤ 3) = true then impl_AreRoped.l1 k l s (healthy l) ts (ts.length : Int) (i : Int) ts[i] (ts[i].length : Int) 0 else some false) (fun k => ?_) ?_
      · simp only [impl_AreRoped.l0, inRange_eq, Option.bind_some]
        rw [if_pos (by omega), if_pos (by omega), if_pos (by omega), rdL h]
      · simp only [teamsGo]
        by_cases c : 2 ≤ ts[i].length ∧ ts[i].length ≤ 3
        · rw [if_pos c]
          refine evPos (by rw [decide_eq_true_eq]; omega) ?_
          have := teamScan (wellA l) ts[i] (fun k s j => impl_AreRoped.l1 k l s (healthy l) ts (ts.length : Int) (i : Int) ts[i] (ts[i].length : Int) j) (fun r => teamsGo (wellA l) r t && areCrew l) (3 * i) (fun s' hs' => by
              refine Ev.step (fun k => ?_) (ih s' (by omega))
              simp only [impl_AreRoped.l1]
              rw [if_neg (by omega), wrapSucc (by omega)]) (fun s' j hj hs' ih' => by
              refine Ev.step (f := fun k => (impl_has.f k (healthy l) ts[i][j]).bind fun z => if z = true then ((impl_has.f k s' ts[i][j]).bind fun y => if y = true then some false else impl_AreRoped.l1 k l (s' ++ [ts[i][j]]) (healthy l) ts (ts.length : Int) (i : Int) ts[i] (ts[i].length : Int) ((j + 1 : Nat) : Int)) else some false) (fun k => ?_) ?_
              · simp only [impl_AreRoped.l1]
                rw [if_pos (by omega), if_pos (by omega), if_pos (by omega), rdIn hj, wrapSucc (by omega), if_pos (show s'.length < 17592186044416 by omega)]
              · refine Ev.bind (has_ev _ hh) ?_
                by_cases d : wellA l ts[i][j] = true
                · refine evPos d (Ev.bind (has_ev _ (by omega)) ?_)
                  by_cases e : ts[i][j] ∈ s'
                  · rw [if_neg (fun x => x.2 e)]
                    exact evPos (decide_eq_true e) (Ev.now _)
                  · rw [if_pos ⟨d, e⟩]
                    exact evNeg (by simpa using e) (ih' d e)
                · rw [if_neg (fun x => d x.1)]
                  exact evNeg d (Ev.now _))
            s (by omega)
          refine evTo this ?_
          cases teamGo (wellA l) s ts[i] <;> simp
        · rw [if_neg c, Bool.false_and]
          exact evNeg (by rw [decide_eq_true_eq]; omega) (Ev.now _))
    [] (by simp)

/-- Where the better one stands: the one that was best (-1: none), or the one at k (-1: none). -/
def better (l : List S68) (best k : Int) : Int := if 0 ≤ k ∧ (best < 0 ∨ (rd_T68 l best).f1 < (rd_T68 l k).f1) then k else best
def bestOf (l : List S68) : Int → List Int → Int
  | b, [] => b
  | b, n :: t => bestOf l (better l b (findM n 0 l)) t
def pick (l : List S68) (b : Int) : Int := if b < 0 then 0 else (rd_T68 l b).f0
def leaderOf (l : List S68) (team : List Int) : Int := pick l (bestOf l (-1) team)
def bestOk (l : List S68) (b : Int) : Prop := -1 ≤ b ∧ b < (l.length : Int)
theorem better_ok {l : List S68} {b : Int} (n : Int) (hb : bestOk l b) : bestOk l (better l b (findM n 0 l)) := by
  unfold better
  split
  · unfold bestOk at *
    have := findM_lt n l 0
    omega
  · exact hb
theorem bestOf_ok {l : List S68} : ∀ (t : List Int) (b : Int), bestOk l b → bestOk l (bestOf l b t)
  | [], b, hb => hb
  | n :: t, b, hb => bestOf_ok t _ (better_ok n hb)
theorem leaderLoop {l : List S68} {team : List Int} (ht : team.length ≤ 100000000) (g : Nat → Int → Option Int) (hg : ∀ n, Ev (fun k => g k n) (findM n 0 l)) (lp : Nat → Int → Int → Option Int)
    (hend : ∀ k b, lp (k + 1) b (team.length : Int) = if b < 0 then some 0 else if 0 ≤ b then if b < (l.length : Int) then some (rd_T68 l b).f0 else none else none)
    (hstep : ∀ k b (i : Nat) (h : i < team.length), lp (k + 1) b (i : Int) = (g k team[i]).bind fun t => if t ≥ 0 then (if b < 0 then lp k t ((i + 1 : Nat) : Int) else (if 0 ≤ t then (if t < (l.length : Int) then (if 0 ≤ b then (if b < (l.length : Int) then (if (rd_T68 l t).f1 > (rd_T68 l b).f1 then lp k t ((i + 1 : Nat) : Int) else lp k b ((i + 1 : Nat) : Int)) else none) else none) else none) else none)) else lp k b ((i + 1 : Nat) : Int)) :
    Ev (fun k => lp k (-1) 0) (leaderOf l team) := by
  have key := evScan team lp (fun b _ t => pick l (bestOf l b t)) (fun b _ => bestOk l b) (fun b hb => by
      unfold bestOk at hb
      refine Ev.step (fun k => hend k b) ?_
      simp only [bestOf]
      unfold pick
      by_cases c : b < 0
      · simp only [if_pos c]
        exact Ev.now _
      · simp only [if_neg c]
        exact evPos (by omega) (evPos (by omega) (Ev.now _))) (fun b i t h _ hb ih => by
      refine Ev.step (fun k => hstep k b i h) (Ev.bind (hg _) ?_)
      have hl := findM_lt team[i] l 0
      have ih := ih _ (better_ok team[i] hb)
      simp only [bestOf]
      unfold bestOk at hb
      by_cases c0 : findM team[i] 0 l ≥ 0
      · refine evPos c0 ?_
        by_cases c1 : b < 0
        · refine evPos c1 ?_
          have e : better l b (findM team[i] 0 l) = findM team[i] 0 l := by unfold better; rw [if_pos ⟨c0, .inl c1⟩]
          rw [e] at ih ⊢
          exact ih
        · refine evNeg c1 (evPos (by omega) (evPos (by omega) (evPos (by omega) (evPos (by omega) ?_))))
          by_cases c2 : (rd_T68 l (findM team[i] 0 l)).f1 > (rd_T68 l b).f1
          · refine evPos c2 ?_
            have e : better l b (findM team[i] 0 l) = findM team[i] 0 l := by unfold better; rw [if_pos ⟨c0, .inr c2⟩]
            rw [e] at ih ⊢
            exact ih
          · refine evNeg c2 ?_
            have e : better l b (findM team[i] 0 l) = b := by
              unfold better
              rw [if_neg]
              rintro ⟨_, x | x⟩
              · exact c1 x
              · exact c2 x
            rw [e] at ih ⊢
            exact ih
      · refine evNeg c0 ?_
        have e : better l b (findM team[i] 0 l) = b := by
          unfold better
          rw [if_neg]
          rintro ⟨x, _⟩
          exact c0 x
        rw [e] at ih ⊢
        exact ih)
    (-1) (by unfold bestOk; omega)
  exact key

theorem impl_memberOf_ev {l : List S68} (n : Int) (hl : l.length ≤ 100000000) : Ev (fun k => impl_memberOf.f k l n) (findM n 0 l) := by
  have key := evScan l (fun k (_ : Unit) i => impl_memberOf.l0 k n l (l.length : Int) i) (fun _ i t => findM n i t) (fun _ _ => True) (fun _ _ => by
      refine Ev.step (f := fun _ => some (-1)) (fun k => ?_) (Ev.now _)
      simp only [impl_memberOf.l0]
      rw [if_neg (by omega)]) (fun _ i t h _ _ ih => by
      have st : ∀ k, impl_memberOf.l0 (k + 1) n l (l.length : Int) (i : Int) = if l[i].f0 = n then some (i : Int) else impl_memberOf.l0 k n l (l.length : Int) ((i + 1 : Nat) : Int) := by
        intro k
        simp only [impl_memberOf.l0]
        rw [if_pos (by omega), if_pos (by omega), if_pos (by omega), rdM h, wrapSucc (by omega)]
      refine Ev.step st ?_
      simp only [findM]
      by_cases d : l[i].f0 = n
      · rw [if_pos d]
        exact evPos d (Ev.now _)
      · rw [if_neg d]
        exact evNeg d (ih () trivial))
    () trivial
  unfold impl_memberOf.f
  exact key

theorem impl_LeaderOf_ev {l : List S68} {team : List Int} (hl : l.length ≤ 100000000) (ht : team.length ≤ 100000000) : Ev (fun k => impl_LeaderOf.f k l team) (leaderOf l team) := by
  unfold impl_LeaderOf.f
  refine leaderLoop ht (fun k n => impl_memberOf.f k l n) (fun n => impl_memberOf_ev n hl) (fun k b i => impl_LeaderOf.l0 k l b team (team.length : Int) i) (fun k b => ?_) (fun k b i h => ?_)
  · simp only [impl_LeaderOf.l0]
    rw [if_neg (by omega)]
  · simp only [impl_LeaderOf.l0]
    rw [if_pos (by omega), if_pos (by omega), if_pos (by omega), rdIn h, wrapSucc (by omega)]

theorem contains_ev {l : List Int} (n : Int) (hl : l.length ≤ 100000000) : Ev (fun k => laws_contains.f k l n) (decide (n ∈ l)) := by
  have key := evScan l (fun k (_ : Unit) i => laws_contains.l0 k l n i) (fun _ _ t => decide (n ∈ t)) (fun _ _ => True) (fun _ _ => by
      refine Ev.step (f := fun _ => some false) (fun k => ?_) (Ev.now _)
      simp only [laws_contains.l0]
      rw [if_neg (by omega)]) (fun _ i t h ht _ ih => by
      have st : ∀ k, laws_contains.l0 (k + 1) l n (i : Int) = if l[i] = n then some true else laws_contains.l0 k l n ((i + 1 : Nat) : Int) := by
        intro k
        simp only [laws_contains.l0]
        rw [if_pos (by omega), if_pos (by omega), rdIn h, wrapSucc (by omega)]
      refine Ev.step st ?_
      by_cases c : l[i] = n
      · refine evPos c ?_
        simp only [List.mem_cons, c, true_or, decide_true]
        exact Ev.now _
      · refine evNeg c ?_
        have := ih () trivial
        have c' : ¬ n = l[i] := fun e => c e.symm
        simpa [c'] using this)
    () trivial
  unfold laws_contains.f
  exact key

theorem spec_Healthy_ev {l : List S68} (hl : l.length ≤ 100000000) : Ev (fun k => spec_Healthy.f k l) (healthy l) := by
  have key := evScan l (fun k (acc : List Int) i => spec_Healthy.l0 k l acc i) (fun acc i t => acc ++ healthy t) (fun acc i => acc.length ≤ i) (fun acc _ => by
      rw [show acc ++ healthy [] = acc by simp [healthy]]
      refine Ev.step (f := fun _ => some acc) (fun k => ?_) (Ev.now _)
      simp only [spec_Healthy.l0]
      rw [if_neg (by omega)]) (fun acc i t h _ hi ih => by
      have st : ∀ k, spec_Healthy.l0 (k + 1) l acc (i : Int) = if l[i].f3 = true then spec_Healthy.l0 k l acc ((i + 1 : Nat) : Int) else spec_Healthy.l0 k l (acc ++ [l[i].f0]) ((i + 1 : Nat) : Int) := by
        intro k
        simp only [spec_Healthy.l0]
        rw [if_pos (by omega), if_pos (by omega), rdM h, wrapSucc (by omega), if_pos (show acc.length < 17592186044416 by omega)]
      refine Ev.step st ?_
      by_cases d : l[i].f3 = true
      · refine evPos d ?_
        have := ih acc (by omega)
        simpa [healthy, d] using this
      · refine evNeg d ?_
        have := ih (acc ++ [l[i].f0]) (by simp; omega)
        simpa [healthy, d] using this)
    [] (by simp)
  unfold spec_Healthy.f
  simpa using key

/-- A way: its cells are open, each beside the one before it. p: is there one before, and which. -/
def wayFrom (w h : Int) (c : List Int) : Option Int → List Int → Bool
  | _, [] => true
  | none, m :: t => decide (openOk w h c m) && wayFrom w h c (some m) t
  | some p, m :: t => (decide (openOk w h c m) && decide (apart w h c p m = 1)) && wayFrom w h c (some m) t
def wayS (w h : Int) (c : List Int) (l : List Int) : Bool := wayFrom w h c none l && decide (0 < l.length)
def prevW (l : List Int) (i : Nat) : Option Int := if i = 0 then none else some (l.getD (i - 1) 0)
theorem prevW_succ {l : List Int} {i : Nat} (h : i < l.length) : prevW l (i + 1) = some l[i] := by
  unfold prevW
  rw [if_neg (by omega), Nat.add_sub_cancel, getD_lt h]
theorem prevW_pos {l : List Int} {i : Nat} (hl : l.length ≤ 100000000) (h : i < l.length) (h0 : 0 < i) : prevW l i = some (rd l (wrap64 ((i : Int) - 1))) := by
  rw [wrapId (n := (i : Int) - 1) (by omega) (by omega), show ((i : Int) - 1) = ((i - 1 : Nat) : Int) by omega, rdIn (by omega)]
  unfold prevW
  rw [if_neg (by omega), getD_lt (by omega)]
theorem wayFrom_open {w h : Int} {c : List Int} : ∀ {l : List Int} {p : Option Int}, wayFrom w h c p l = true → ∀ m ∈ l, openOk w h c m
  | [], _, _, m, hm => by cases hm
  | x :: t, none, e, m, hm => by
    simp only [wayFrom, Bool.and_eq_true, decide_eq_true_eq] at e
    rcases List.mem_cons.1 hm with rfl | hm
    · exact e.1
    · exact wayFrom_open e.2 m hm
  | x :: t, some p, e, m, hm => by
    simp only [wayFrom, Bool.and_eq_true, decide_eq_true_eq] at e
    rcases List.mem_cons.1 hm with rfl | hm
    · exact e.1.1
    · exact wayFrom_open e.2 m hm
theorem wayS_open {w h : Int} {c l : List Int} (e : wayS w h c l = true) : ∀ m ∈ l, openOk w h c m := by
  unfold wayS at e
  rw [Bool.and_eq_true] at e
  exact wayFrom_open e.1
/-- How many cells of a list are ice. -/
def iceIn (c : List Int) : List Int → Int
  | [] => 0
  | m :: t => (if rd c m = 1 then 1 else 0) + iceIn c t
theorem iceIn_le (c : List Int) : ∀ l, 0 ≤ iceIn c l ∧ iceIn c l ≤ (l.length : Int)
  | [] => by simp [iceIn]
  | m :: t => by
    have := iceIn_le c t
    simp only [iceIn, List.length_cons]
    split <;> omega
def iceOn (w h : Int) (c l : List Int) : Int := if wayS w h c l = true then iceIn c l else 0

theorem allIn_ev {l : List Int} (lo hi : Int) (hl : l.length ≤ 100000000) : Ev (fun k => impl_allIn.f k l lo hi) (inB lo hi l) := by
  have key := evScan l (fun k (_ : Unit) i => impl_allIn.l0 k lo hi l (l.length : Int) i) (fun _ _ t => inB lo hi t) (fun _ _ => True) (fun _ _ => by
      rw [show inB lo hi [] = true from rfl]
      refine Ev.step (f := fun _ => some true) (fun k => ?_) (Ev.now _)
      simp only [impl_allIn.l0]
      rw [if_neg (by omega)]) (fun _ i t h _ _ ih => by
      have st : ∀ k, impl_allIn.l0 (k + 1) lo hi l (l.length : Int) (i : Int) = if decide (lo ≤ l[i] ∧ l[i] ≤ hi) = true then impl_allIn.l0 k lo hi l (l.length : Int) ((i + 1 : Nat) : Int) else some false := by
        intro k
        simp only [impl_allIn.l0, inRange_eq, Option.bind_some]
        rw [if_pos (by omega), if_pos (by omega), if_pos (by omega), rdIn h, wrapSucc (by omega)]
      refine Ev.step st ?_
      by_cases d : lo ≤ l[i] ∧ l[i] ≤ hi
      · refine evPos (decide_eq_true d) ?_
        rw [inB_yes d]
        exact ih () trivial
      · refine evNeg (by rw [decide_eq_true_eq]; exact d) ?_
        rw [inB_no d]
        exact Ev.now _)
    () trivial
  unfold impl_allIn.f
  exact key
theorem impl_IsLand_ev (w h : Int) (c : List Int) : Ev (fun k => impl_IsLand.f k w h c) (decide (landOk w h c)) := by
  unfold impl_IsLand.f
  simp only [inRange_eq, Option.bind_some]
  by_cases c0 : 1 ≤ w ∧ w ≤ 8
  · refine evPos (decide_eq_true c0) ?_
    by_cases c1 : 1 ≤ h ∧ h ≤ 8
    · have sb := sideB c0 c1
      refine evPos (decide_eq_true c1) ?_
      rw [wrapId (n := w * h) (by omega) (by omega)]
      by_cases c2 : (c.length : Int) = w * h
      · refine evPos c2 (Ev.bind (allIn_ev 0 2 (by omega)) ?_)
        rw [show decide (landOk w h c) = inB 0 2 c by rw [Bool.eq_iff_iff, decide_eq_true_eq, inB_iff]; exact ⟨fun x => x.2.2, fun x => ⟨⟨c0, c1⟩, c2, x⟩⟩]
        exact Ev.now _
      · rw [decide_eq_false (fun x : landOk w h c => c2 x.2.1)]
        exact evNeg c2 (Ev.now _)
    · rw [decide_eq_false (fun x : landOk w h c => c1 x.1.2)]
      exact evNeg (by rw [decide_eq_true_eq]; exact c1) (Ev.now _)
  · rw [decide_eq_false (fun x : landOk w h c => c0 x.1.1)]
    exact evNeg (by rw [decide_eq_true_eq]; exact c0) (Ev.now _)
theorem impl_IsCell_ev (w h : Int) (c : List Int) (n : Int) : Ev (fun k => impl_IsCell.f k w h c n) (decide (cellOk w h c n)) := by
  unfold impl_IsCell.f
  refine Ev.bind (impl_IsLand_ev w h c) ?_
  by_cases q : landOk w h c
  · refine evPos (decide_eq_true q) ?_
    have := q.len
    simp only [inRange_eq, Option.bind_some]
    rw [wrapId (n := (c.length : Int) - 1) (by omega) (by omega), show decide (cellOk w h c n) = decide (0 ≤ n ∧ n ≤ (c.length : Int) - 1) by rw [decide_eq_decide]; exact ⟨fun x => ⟨x.2.1, by have := x.2.2; omega⟩, fun x => ⟨q, x.1, by omega⟩⟩]
    exact Ev.now _
  · rw [decide_eq_false (fun x : cellOk w h c n => q x.1)]
    exact evNeg (by rw [decide_eq_true_eq]; exact q) (Ev.now _)

theorem impl_IsOpen_ev (w h : Int) (c : List Int) (n : Int) : Ev (fun k => impl_IsOpen.f k w h c n) (decide (openOk w h c n)) := by
  unfold impl_IsOpen.f
  refine Ev.bind (impl_IsCell_ev w h c n) ?_
  by_cases q : cellOk w h c n
  · refine evPos (decide_eq_true q) (evPos q.2.1 (evPos q.2.2 ?_))
    rw [show decide (openOk w h c n) = (rd c n != 2) by rw [Bool.eq_iff_iff, decide_eq_true_eq, bne_iff_ne]; exact ⟨fun x => x.2, fun x => ⟨q, x⟩⟩]
    exact Ev.now _
  · rw [decide_eq_false (fun x : openOk w h c n => q x.1)]
    exact evNeg (by rw [decide_eq_true_eq]; exact q) (Ev.now _)

theorem impl_Apart_ev (w h : Int) (c : List Int) (a b : Int) : Ev (fun k => impl_Apart.f k w h c a b) (apart w h c a b) := by
  have no : ¬ (cellOk w h c a ∧ cellOk w h c b) → Ev (fun k => impl_Apart.j0 k a b true w h c) (apart w h c a b) := by
    intro q
    unfold apart
    rw [if_neg q]
    refine Ev.step (f := fun _ => some (-1)) (fun k => ?_) (Ev.now _)
    simp only [impl_Apart.j0, if_true]
  unfold impl_Apart.f
  refine Ev.bind (impl_IsCell_ev w h c a) ?_
  by_cases qa : cellOk w h c a
  · refine evPos (decide_eq_true qa) (Ev.bind (impl_IsCell_ev w h c b) ?_)
    by_cases qb : cellOk w h c b
    · rw [decide_eq_true qb]
      unfold apart
      rw [if_pos ⟨qa, qb⟩]
      have hw := qa.1.1.1
      have hl := qa.1.len
      have ma := modB hw qa.2.1 (by have := qa.2.2; omega)
      have mb := modB hw qb.2.1 (by have := qb.2.2; omega)
      refine Ev.step (f := fun _ => some (absI (a % w - b % w) + absI (a / w - b / w))) (fun k => ?_) (Ev.now _)
      simp only [impl_Apart.j0, Bool.not_true, Bool.false_eq_true, if_false, impl_size.f, Option.bind_some, ma.1, mb.1, ma.2.1, mb.2.1]
      rw [if_neg (by omega), wrapId (n := a / w) (by omega) (by omega), wrapId (n := b / w) (by omega) (by omega), wrapId (n := a % w - b % w) (by omega) (by omega), wrapId (n := a / w - b / w) (by omega) (by omega), wrapId (n := -(a % w - b % w)) (by omega) (by omega), wrapId (n := -(a / w - b / w)) (by omega) (by omega)]
      have e0 : mx (a % w - b % w) (-(a % w - b % w)) = absI (a % w - b % w) := by unfold mx absI; repeat' split; all_goals omega
      have e1 : mx (a / w - b / w) (-(a / w - b / w)) = absI (a / w - b / w) := by unfold mx absI; repeat' split; all_goals omega
      rw [e0, e1, wrapId]
      · unfold absI
        repeat' split
        all_goals omega
      · unfold absI
        repeat' split
        all_goals omega
    · rw [decide_eq_false qb]
      exact no (fun x => qb x.2)
  · exact evNeg (by rw [decide_eq_true_eq]; exact qa) (no (fun x => qa x.1))

theorem compact_asc {l : List Int} (hl : l.Pairwise (· < ·)) : Go.Lib.compact l = l := by
  refine Go.Lib.compact_all l (fun j hj => ?_)
  rcases Nat.eq_zero_or_pos j with rfl | h0
  · simp [Go.Lib.keeps]
  · have h1 : j - 1 < l.length := by omega
    have := List.pairwise_iff_getElem.1 hl (j - 1) j h1 hj (by omega)
    simp only [Go.Lib.keeps, decide_eq_true_eq]
    right
    simp only [List.getElem!_toArray]
    rw [getElem!_pos l j hj, getElem!_pos l (j - 1) h1]
    omega
theorem compact2 (a : Int) : Go.Lib.compact [a, a] = [a] := by
  have k0 : Go.Lib.keeps #[a, a] 0 = true := by simp [Go.Lib.keeps]
  have k1 : Go.Lib.keeps #[a, a] 1 = false := by simp [Go.Lib.keeps]
  show Go.Lib.compactUpTo #[a, a] (0 + 1 + 1) = _
  rw [Go.Lib.compactUpTo_succ, Go.Lib.compactUpTo_succ, k0, k1]
  simp [Go.Lib.compactUpTo]
theorem compact4 {a b : Int} (h : b ≠ a) : Go.Lib.compact [a, a, b, b] = [a, b] := by
  have k0 : Go.Lib.keeps #[a, a, b, b] 0 = true := by simp [Go.Lib.keeps]
  have k1 : Go.Lib.keeps #[a, a, b, b] 1 = false := by simp [Go.Lib.keeps]
  have k2 : Go.Lib.keeps #[a, a, b, b] 2 = true := by simp [Go.Lib.keeps, h]
  have k3 : Go.Lib.keeps #[a, a, b, b] 3 = false := by simp [Go.Lib.keeps]
  show Go.Lib.compactUpTo #[a, a, b, b] (0 + 1 + 1 + 1 + 1) = _
  rw [Go.Lib.compactUpTo_succ, Go.Lib.compactUpTo_succ, Go.Lib.compactUpTo_succ, Go.Lib.compactUpTo_succ, k0, k1, k2, k3]
  simp [Go.Lib.compactUpTo]
def beP (w h : Int) (c : List Int) (n m : Int) : Bool := decide (openOk w h c m ∧ apart w h c n m = 1)
theorem near_compact {w h : Int} {c : List Int} {n : Int} (hn : cellOk w h c n) : Go.Lib.compact ([n - w, n - 1, n + 1, n + w].filter (beP w h c n)) = nearS w c n := by
  have hw := hn.1.1.1
  have hc := hn.1.2.1
  have hlen := hn.1.len
  have h0 := hn.2.1
  have h1 := hn.2.2
  have key : ∀ m, beP w h c n m = true ↔ (0 ≤ m ∧ m < (c.length : Int)) ∧ rd c m ≠ 2 ∧ (m = n - w ∨ (m = n - 1 ∧ 0 < n % w) ∨ (m = n + 1 ∧ n % w < w - 1) ∨ m = n + w) := by
    intro m
    unfold beP
    rw [decide_eq_true_eq, ← beside hw]
    constructor
    · rintro ⟨ho, ha⟩
      unfold apart at ha
      rw [if_pos ⟨hn, ho.1⟩] at ha
      exact ⟨ho.1.2, ho.2, ha⟩
    · rintro ⟨hm, hr, ha⟩
      have hm' : cellOk w h c m := ⟨hn.1, hm⟩
      refine ⟨⟨hm', hr⟩, ?_⟩
      unfold apart
      rw [if_pos ⟨hn, hm'⟩]
      exact ha
  by_cases hw1 : w = 1
  · subst hw1
    have e0 : beP 1 h c n (n - 1) = decide ((1 : Int) ≤ n ∧ rd c (n - 1) ≠ 2) := by
      rw [Bool.eq_iff_iff, key, decide_eq_true_eq]
      constructor
      · rintro ⟨a, b, _⟩
        exact ⟨by omega, b⟩
      · rintro ⟨a, b⟩
        exact ⟨by omega, b, .inl rfl⟩
    have e1 : beP 1 h c n (n + 1) = decide (n + 1 < (c.length : Int) ∧ rd c (n + 1) ≠ 2) := by
      rw [Bool.eq_iff_iff, key, decide_eq_true_eq]
      constructor
      · rintro ⟨a, b, _⟩
        exact ⟨by omega, b⟩
      · rintro ⟨a, b⟩
        exact ⟨by omega, b, .inr (.inr (.inr rfl))⟩
    have ne : n + 1 ≠ n - 1 := by omega
    unfold nearS
    rw [if_neg (show ¬ (0 < n % 1 ∧ rd c (n - 1) ≠ 2) by omega), if_neg (show ¬ (n % 1 < 1 - 1 ∧ rd c (n + 1) ≠ 2) by omega), List.append_nil, List.append_nil]
    simp only [List.filter_cons, List.filter_nil, e0, e1, decide_eq_true_eq]
    by_cases p : (1 : Int) ≤ n ∧ rd c (n - 1) ≠ 2
    · by_cases q : n + 1 < (c.length : Int) ∧ rd c (n + 1) ≠ 2
      · rw [if_pos p, if_pos p, if_pos q, if_pos q, if_pos p, compact4 ne]
        rfl
      · rw [if_pos p, if_pos p, if_neg q, if_neg q, if_pos p, compact2]
        rfl
    · by_cases q : n + 1 < (c.length : Int) ∧ rd c (n + 1) ≠ 2
      · rw [if_neg p, if_neg p, if_pos q, if_pos q, if_neg p, compact2]
        rfl
      · rw [if_neg p, if_neg p, if_neg q, if_neg q, if_neg p]
        rfl
  · have hw2 : 2 ≤ w := by omega
    rw [compact_asc (List.Pairwise.filter _ (by simp; omega))]
    have f0 : beP w h c n (n - w) = decide (w ≤ n ∧ rd c (n - w) ≠ 2) := by
      rw [Bool.eq_iff_iff, key, decide_eq_true_eq]
      constructor
      · rintro ⟨a, b, _⟩
        exact ⟨by omega, b⟩
      · rintro ⟨a, b⟩
        exact ⟨by omega, b, .inl rfl⟩
    have f1 : beP w h c n (n - 1) = decide (0 < n % w ∧ rd c (n - 1) ≠ 2) := by
      rw [Bool.eq_iff_iff, key, decide_eq_true_eq]
      constructor
      · rintro ⟨a, b, (d | d | d | d)⟩
        · omega
        · exact ⟨d.2, b⟩
        · omega
        · omega
      · rintro ⟨a, b⟩
        have hp : 0 < n := by
          rcases Int.lt_or_le 0 n with x | x
          · exact x
          · obtain rfl : n = 0 := by omega
            simp at a
        exact ⟨by omega, b, .inr (.inl ⟨rfl, a⟩)⟩
    have f2 : beP w h c n (n + 1) = decide (n % w < w - 1 ∧ rd c (n + 1) ≠ 2) := by
      rw [Bool.eq_iff_iff, key, decide_eq_true_eq]
      constructor
      · rintro ⟨a, b, (d | d | d | d)⟩
        · omega
        · omega
        · exact ⟨d.2, b⟩
        · omega
      · rintro ⟨a, b⟩
        have := rowMul (h := h) hw (by omega) a
        exact ⟨by omega, b, .inr (.inr (.inl ⟨rfl, a⟩))⟩
    have f3 : beP w h c n (n + w) = decide (n + w < (c.length : Int) ∧ rd c (n + w) ≠ 2) := by
      rw [Bool.eq_iff_iff, key, decide_eq_true_eq]
      constructor
      · rintro ⟨a, b, _⟩
        exact ⟨by omega, b⟩
      · rintro ⟨a, b⟩
        exact ⟨by omega, b, .inr (.inr (.inr rfl))⟩
    simp only [List.filter_cons, List.filter_nil, f0, f1, f2, f3, decide_eq_true_eq]
    unfold nearS
    have app : ∀ (a b d e : Prop) [Decidable a] [Decidable b] [Decidable d] [Decidable e] (x y z t : Int), (if a then x :: (if b then y :: (if d then z :: (if e then [t] else []) else (if e then [t] else [])) else (if d then z :: (if e then [t] else []) else (if e then [t] else []))) else (if b then y :: (if d then z :: (if e then [t] else []) else (if e then [t] else [])) else (if d then z :: (if e then [t] else []) else (if e then [t] else [])))) = (((if a then [x] else []) ++ (if b then [y] else [])) ++ (if d then [z] else [])) ++ (if e then [t] else []) := by
      intro a b d e _ _ _ _ x y z t
      by_cases ha : a <;> by_cases hb : b <;> by_cases hd : d <;> by_cases he : e <;> simp [ha, hb, hd, he]
    exact app _ _ _ _ _ _ _ _
theorem impl_Near_ev {w h : Int} {c : List Int} {n : Int} (hn : cellOk w h c n) : Ev (fun k => impl_Near.f k w h c n) (nearS w c n) := by
  have hw := hn.1.1.1
  have hlen := hn.1.len
  have h0 := hn.2.1
  have h1 := hn.2.2
  unfold impl_Near.f
  refine Ev.bind (impl_IsCell_ev w h c n) (evPos (decide_eq_true hn) ?_)
  simp only [Option.bind_some]
  rw [wrapId (n := n - w) (by omega) (by omega), wrapId (n := n - 1) (by omega) (by omega), wrapId (n := n + 1) (by omega) (by omega), wrapId (n := n + w) (by omega) (by omega)]
  have key := evScan [n - w, n - 1, n + 1, n + w] (fun k (acc : List Int) i => impl_Near.l0 k n acc [n - w, n - 1, n + 1, n + w] (([n - w, n - 1, n + 1, n + w] : List Int).length : Int) i w h c) (fun acc i t => Go.Lib.compact (acc ++ t.filter (beP w h c n))) (fun acc i => acc.length ≤ i) (fun acc _ => by
      refine Ev.step (f := fun _ => some (Go.Lib.compact acc)) (fun k => ?_) ?_
      · simp only [impl_Near.l0, slices_Compact_int_int.f, Option.bind_some]
        rw [if_neg (by omega)]
      · simp only [List.filter_nil, List.append_nil]
        exact Ev.now _) (fun acc i t hi _ ha ih => by
      generalize hL : [n - w, n - 1, n + 1, n + w] = L at *
      have hL4 : L.length = 4 := by rw [← hL]; rfl
      have st : ∀ k, impl_Near.l0 (k + 1) n acc L (L.length : Int) (i : Int) w h c = (impl_IsOpen.f k w h c L[i]).bind fun o => if o = true then ((impl_Apart.f k w h c n L[i]).bind fun d => if d = 1 then impl_Near.l0 k n (acc ++ [L[i]]) L (L.length : Int) ((i + 1 : Nat) : Int) w h c else impl_Near.l0 k n acc L (L.length : Int) ((i + 1 : Nat) : Int) w h c) else impl_Near.l0 k n acc L (L.length : Int) ((i + 1 : Nat) : Int) w h c := by
        intro k
        simp only [impl_Near.l0]
        rw [if_pos (by omega), if_pos (by omega), if_pos (by omega), rdIn hi, wrapSucc (by omega)]
        simp only [if_pos (show acc.length < 17592186044416 by omega)]
      have no : ¬ (openOk w h c L[i] ∧ apart w h c n L[i] = 1) → Ev (fun k => impl_Near.l0 k n acc L (L.length : Int) ((i + 1 : Nat) : Int) w h c) (Go.Lib.compact (acc ++ (L[i] :: t).filter (beP w h c n))) := by
        intro q
        rw [List.filter_cons, if_neg (by unfold beP; rw [decide_eq_true_eq]; exact q)]
        exact ih acc (by omega)
      refine Ev.step st (Ev.bind (impl_IsOpen_ev w h c L[i]) ?_)
      by_cases q1 : openOk w h c L[i]
      · refine evPos (decide_eq_true q1) (Ev.bind (impl_Apart_ev w h c n L[i]) ?_)
        by_cases q2 : apart w h c n L[i] = 1
        · refine evPos q2 ?_
          rw [List.filter_cons, if_pos (by unfold beP; rw [decide_eq_true_eq]; exact ⟨q1, q2⟩)]
          have := ih (acc ++ [L[i]]) (by simp; omega)
          rwa [List.append_assoc, List.singleton_append] at this
        · exact evNeg q2 (no (fun x => q2 x.2))
      · exact evNeg (by rw [decide_eq_true_eq]; exact q1) (no (fun x => q1 x.1)))
    [] (by simp)
  rw [List.nil_append, near_compact hn] at key
  exact key

theorem impl_IsWay_ev (w h : Int) (c : List Int) {l : List Int} (hl : l.length ≤ 100000000) : Ev (fun k => impl_IsWay.f k w h c l) (wayS w h c l) := by
  have key := evScan l (fun k (_ : Unit) i => impl_IsWay.l0 k l l (l.length : Int) i w h c) (fun _ i t => wayFrom w h c (prevW l i) t && decide (0 < l.length)) (fun _ i => ∀ p, prevW l i = some p → openOk w h c p) (fun _ _ => by
      refine Ev.step (f := fun _ => some (decide (0 < l.length))) (fun k => ?_) ?_
      · simp only [impl_IsWay.l0]
        rw [if_neg (by omega), Option.some.injEq, decide_eq_decide]
        omega
      · simp only [wayFrom, Bool.true_and]
        exact Ev.now _) (fun _ i t hi ht hp ih => by
      have st : ∀ k, impl_IsWay.l0 (k + 1) l l (l.length : Int) (i : Int) w h c = (impl_IsOpen.f k w h c l[i]).bind fun o => if o = true then (if (i : Int) > 0 then (if 0 ≤ (wrap64 ((i : Int) - 1)) then (if (wrap64 ((i : Int) - 1)) < (l.length : Int) then ((impl_Near.f k w h c (rd l (wrap64 ((i : Int) - 1)))).bind fun z => (impl_has.f k z l[i]).bind fun y => if y = true then impl_IsWay.l0 k l l (l.length : Int) ((i + 1 : Nat) : Int) w h c else some false) else none) else none) else impl_IsWay.l0 k l l (l.length : Int) ((i + 1 : Nat) : Int) w h c) else some false := by
        intro k
        simp only [impl_IsWay.l0]
        rw [if_pos (by omega), if_pos (by omega), if_pos (by omega), rdIn hi, wrapSucc (by omega)]
      refine Ev.step st (Ev.bind (impl_IsOpen_ev w h c l[i]) ?_)
      by_cases q : openOk w h c l[i]
      · have ih := ih () (by
          intro p e
          rw [prevW_succ hi] at e
          obtain rfl := Option.some.inj e
          exact q)
        rw [prevW_succ hi] at ih
        refine evPos (decide_eq_true q) ?_
        by_cases i0 : 0 < i
        · have e1 := prevW_pos hl hi i0
          have w1 : wrap64 ((i : Int) - 1) = ((i - 1 : Nat) : Int) := by rw [wrapId (n := (i : Int) - 1) (by omega) (by omega)]; omega
          refine evPos (show (i : Int) > 0 by omega) (evPos (by rw [w1]; omega) (evPos (by rw [w1]; omega) ?_))
          have ho := hp _ e1
          refine Ev.bind (impl_Near_ev ho.1) (Ev.bind (has_ev _ (Nat.le_trans (nearS_len w c _) (by omega))) ?_)
          rw [e1]
          simp only [wayFrom, decide_eq_true q, Bool.true_and]
          by_cases r : apart w h c (rd l (wrap64 ((i : Int) - 1))) l[i] = 1
          · rw [decide_eq_true r, Bool.true_and]
            exact evPos (decide_eq_true ((mem_nearS q.1.1 ho.1).2 ⟨q, r⟩)) ih
          · rw [decide_eq_false r, Bool.false_and, Bool.false_and]
            exact evNeg (by rw [decide_eq_true_eq]; exact fun x => r ((mem_nearS q.1.1 ho.1).1 x).2) (Ev.now _)
        · have e0 : prevW l i = none := by
            unfold prevW
            rw [if_pos (by omega)]
          refine evNeg (show ¬ (i : Int) > 0 by omega) ?_
          rw [e0]
          simp only [wayFrom, decide_eq_true q, Bool.true_and]
          exact ih
      · have e : wayFrom w h c (prevW l i) (l[i] :: t) = false := by
          cases prevW l i <;> simp [wayFrom, q]
        rw [e, Bool.false_and]
        exact evNeg (by rw [decide_eq_true_eq]; exact q) (Ev.now _))
    () (by
      intro p e
      unfold prevW at e
      rw [if_pos rfl] at e
      cases e)
  unfold impl_IsWay.f wayS
  exact key

theorem impl_IceOn_ev (w h : Int) (c : List Int) {l : List Int} (hl : l.length ≤ 100000000) : Ev (fun k => impl_IceOn.f k w h c l) (iceOn w h c l) := by
  have key := evScan l (fun k (s : Int) i => impl_IceOn.l0 k l s l (l.length : Int) i w h c) (fun s i t => s + if wayS w h c l = true then iceIn c t else 0) (fun s i => 0 ≤ s ∧ s ≤ (i : Int)) (fun s _ => by
      refine Ev.step (f := fun _ => some s) (fun k => ?_) ?_
      · simp only [impl_IceOn.l0]
        rw [if_neg (by omega)]
      · simp only [iceIn, ite_self, Int.add_zero]
        exact Ev.now _) (fun s i t hi ht hs ih => by
      have st : ∀ k, impl_IceOn.l0 (k + 1) l s l (l.length : Int) (i : Int) w h c = (impl_IsWay.f k w h c l).bind fun o => if o = true then (if 0 ≤ l[i] then (if l[i] < (c.length : Int) then (if rd c l[i] = 1 then impl_IceOn.l0 k l (s + 1) l (l.length : Int) ((i + 1 : Nat) : Int) w h c else impl_IceOn.l0 k l s l (l.length : Int) ((i + 1 : Nat) : Int) w h c) else none) else none) else impl_IceOn.l0 k l s l (l.length : Int) ((i + 1 : Nat) : Int) w h c := by
        intro k
        simp only [impl_IceOn.l0]
        rw [if_pos (by omega), if_pos (by omega), if_pos (by omega), rdIn hi, wrapSucc (by omega), wrapId (n := s + 1) (by omega) (by omega)]
      refine Ev.step st (Ev.bind (impl_IsWay_ev w h c hl) ?_)
      by_cases q : wayS w h c l = true
      · have ho := (wayS_open q l[i] (List.getElem_mem hi)).1.2
        refine evPos q (evPos ho.1 (evPos ho.2 ?_))
        rw [if_pos q]
        simp only [iceIn]
        by_cases r : rd c l[i] = 1
        · have := ih (s + 1) (by omega)
          rw [if_pos q] at this
          rw [if_pos r, ← Int.add_assoc]
          exact evPos r this
        · have := ih s (by omega)
          rw [if_pos q] at this
          rw [if_neg r, Int.zero_add]
          exact evNeg r this
      · have := ih s (by omega)
        rw [if_neg q] at this ⊢
        exact evNeg q this)
    0 (by omega)
  unfold impl_IceOn.f iceOn
  rw [Int.zero_add] at key
  exact key

theorem l16Crew_ev {b : List Int} : ∀ (d : Nat) (x : List S68) (n i h : Int), curOk b i → x.length ≤ 8 → 1 ≤ n → (x.length : Int) + 1 = n → 9 - n ≤ d → ∃ r i' h', Ev (fun k => spec_l16Crew.l0 k x n b i h) (r, i', h') ∧ r.length ≤ 8 := by
  intro d
  induction d with
  | zero =>
    intro x n i h hc hx hn hxn hd
    obtain ⟨u, i1, h1, e1, b1, c1⟩ := l1Below_some h (n := 8) (by omega) hc
    refine ⟨x, i1, h1, Ev.step (f := fun _ => some (x, i1, h1)) (fun k => ?_) (Ev.now _), hx⟩
    simp only [spec_l16Crew.l0, e1, Option.bind_some]
    rw [wrapId (n := 1 + u) (by omega) (by omega), if_neg (by omega)]
  | succ d ih =>
    intro x n i h hc hx hn hxn hd
    obtain ⟨u, i1, h1, e1, b1, c1⟩ := l1Below_some h (n := 8) (by omega) hc
    by_cases q : n ≤ 1 + u
    · obtain ⟨v, i2, h2, e2, b2, c2⟩ := l1Below_some h1 (n := 9) (by omega) c1
      obtain ⟨y, i4, h4, e4, c4⟩ := l1Once_some h2 (n := 6) (by omega) c2
      obtain ⟨r, i5, h5, e5, g1⟩ := ih (x ++ [(⟨n, v, 1, y⟩ : S68)]) (n + 1) i4 h4 c4 (by simp; omega) (by omega) (by simp; omega) (by omega)
      refine ⟨r, i5, h5, Ev.step (fun k => ?_) e5, g1⟩
      simp only [spec_l16Crew.l0, e1, e2, e4, Option.bind_some]
      rw [wrapId (n := 1 + u) (by omega) (by omega), if_pos q, if_pos (by omega), wrapId (n := n + 1) (by omega) (by omega)]
    · refine ⟨x, i1, h1, Ev.step (f := fun _ => some (x, i1, h1)) (fun k => ?_) (Ev.now _), hx⟩
      simp only [spec_l16Crew.l0, e1, Option.bind_some]
      rw [wrapId (n := 1 + u) (by omega) (by omega), if_neg q]
theorem DrawRopeTeams_ev {l : List Int} (hl : l.length ≤ 1048576) : ∃ m, Ev (fun k => spec_DrawRopeTeams.f k l) m ∧ m.length ≤ 8 := by
  unfold spec_DrawRopeTeams.f
  obtain ⟨s, e0⟩ := l1New_ev hl
  obtain ⟨o, i1, s1, e1, c1⟩ := l1Once_some s (n := 8) (by omega) (curStart hl)
  cases o with
  | true =>
    obtain ⟨r, i2, s2, e2, c2, hr⟩ := l7Any_ev s1 c1
    refine ⟨r, Ev.bind e0 ?_, by omega⟩
    simp only [e1, Option.bind_some, if_true]
    exact Ev.bind e2 (Ev.now _)
  | false =>
    obtain ⟨r, i2, s2, e2, hr⟩ := l16Crew_ev (b := l) 8 [] 1 i1 s1 c1 (by simp) (by omega) (by simp) (by omega)
    refine ⟨r, Ev.bind e0 ?_, hr⟩
    simp only [e1, Option.bind_some, Bool.false_eq_true, if_false]
    exact Ev.bind (by unfold spec_l16Crew.f; exact e2) (Ev.now _)
/-! ### Who leads a team is one of it -/
theorem findM_at (n : Int) : ∀ (t : List S68) (i : Nat), (∃ x ∈ t, x.f0 = n) → ∃ j, ∃ h : j < t.length, findM n i t = ((i + j : Nat) : Int) ∧ t[j].f0 = n
  | [], _, ⟨x, hx, _⟩ => by cases hx
  | m :: t, i, ⟨x, hx, hn⟩ => by
    simp only [findM]
    by_cases c : m.f0 = n
    · rw [if_pos c]
      exact ⟨0, by simp, by simp, by simpa using c⟩
    · rw [if_neg c]
      have hx' : x ∈ t := by
        rcases List.mem_cons.1 hx with rfl | q
        · exact absurd hn c
        · exact q
      obtain ⟨j, hj, e, f⟩ := findM_at n t (i + 1) ⟨x, hx', hn⟩
      exact ⟨j + 1, by simp only [List.length_cons]; omega, by rw [e]; omega, by simpa using f⟩
def goodAt (m : List S68) (S : List Int) (b : Int) : Prop := (0 ≤ b ∧ b < (m.length : Int)) ∧ (rd_T68 m b).f0 ∈ S
theorem bestOf_good {m : List S68} {S : List Int} : ∀ (t : List Int) (b : Int), (∀ n ∈ t, n ∈ S ∧ ∃ x ∈ m, x.f0 = n) → (goodAt m S b ∨ (b = -1 ∧ t ≠ [])) → goodAt m S (bestOf m b t)
  | [], b, _, h => by
    rcases h with h | ⟨_, h⟩
    · exact h
    · exact absurd rfl h
  | n :: t, b, hs, h => by
    simp only [bestOf]
    obtain ⟨j, hj, e, f⟩ := findM_at n m 0 (hs n List.mem_cons_self).2
    have gk : goodAt m S (findM n 0 m) := by
      rw [e, Nat.zero_add]
      refine ⟨⟨by omega, by omega⟩, ?_⟩
      rw [rdM hj, f]
      exact (hs n List.mem_cons_self).1
    refine bestOf_good t _ (fun z hz => hs z (List.mem_cons_of_mem _ hz)) (.inl ?_)
    unfold better
    rcases h with h | ⟨h, _⟩
    · split
      · exact gk
      · exact h
    · rw [if_pos ⟨gk.1.1, .inl (by omega)⟩]
      exact gk
theorem leader_in {m : List S68} {t : List Int} (ht : t ≠ []) (hs : ∀ n ∈ t, ∃ x ∈ m, x.f0 = n) : leaderOf m t ∈ t := by
  have g := bestOf_good (S := t) t (-1) (fun n hn => ⟨hn, hs n hn⟩) (.inr ⟨rfl, ht⟩)
  unfold leaderOf pick
  rw [if_neg (by have := g.1; omega)]
  exact g.2
/-! ### The teams -/
theorem rope_teams {h : List Int} (h2 : 2 ≤ h.length) (h8 : h.length ≤ 8) : (ropeTeams h).flatten = h ∧ 0 < (ropeTeams h).length ∧ ∀ t ∈ ropeTeams h, 2 ≤ t.length ∧ t.length ≤ 3 := by
  refine listUpTo8 (p := fun h => (ropeTeams h).flatten = h ∧ 0 < (ropeTeams h).length ∧ ∀ t ∈ ropeTeams h, 2 ≤ t.length ∧ t.length ≤ 3) h h2 h8 ?_ ?_ ?_ ?_ ?_ ?_ ?_
  all_goals
    intros
    exact ⟨rfl, by simp [ropeTeams], by simp [ropeTeams]⟩
theorem healthy_asc : ∀ (l : List S68) (p : Int), crewFrom p l = true → (healthy l).Nodup ∧ ∀ n ∈ healthy l, p < n
  | [], p, _ => by simp [healthy]
  | m :: t, p, e => by
    simp only [crewFrom, Bool.and_eq_true, decide_eq_true_eq] at e
    obtain ⟨ih, lt⟩ := healthy_asc t m.f0 e.2.2
    unfold healthy at ih lt ⊢
    rw [List.filter_cons]
    by_cases d : m.f3 = true
    · rw [if_neg (by simp [d])]
      exact ⟨ih, fun n hn => by have := lt n hn; have := e.2.1; omega⟩
    · rw [if_pos (by simp [d]), List.map_cons]
      refine ⟨List.nodup_cons.2 ⟨fun x => by have := lt _ x; omega, ih⟩, fun n hn => ?_⟩
      rcases List.mem_cons.1 hn with rfl | hn
      · exact e.2.1
      · have := lt n hn
        have := e.2.1
        omega
theorem teamGo_some {P : Int → Bool} : ∀ (t s : List Int), (∀ n ∈ t, P n = true) → (s ++ t).Nodup → teamGo P s t = some (s ++ t)
  | [], s, _, _ => by simp [teamGo]
  | n :: t, s, hp, hn => by
    simp only [teamGo]
    have e : s ++ n :: t = (s ++ [n]) ++ t := by simp
    have no : ¬ n ∈ s := by
      intro q
      rw [List.nodup_append] at hn
      exact hn.2.2 n q n List.mem_cons_self rfl
    rw [if_pos ⟨hp n List.mem_cons_self, no⟩, teamGo_some t (s ++ [n]) (fun z hz => hp z (List.mem_cons_of_mem _ hz)) (by rw [← e]; exact hn), e]
theorem teamsGo_true {P : Int → Bool} : ∀ (ts : List (List Int)) (s : List Int), (∀ t ∈ ts, 2 ≤ t.length ∧ t.length ≤ 3) → (∀ n ∈ ts.flatten, P n = true) → (s ++ ts.flatten).Nodup → teamsGo P s ts = true
  | [], s, _, _, _ => rfl
  | t :: ts, s, hl, hp, hn => by
    have e : s ++ (t :: ts).flatten = (s ++ t) ++ ts.flatten := by simp
    rw [e] at hn
    have hn1 := (List.nodup_append.1 hn).1
    simp only [teamsGo]
    rw [if_pos (hl t List.mem_cons_self), teamGo_some t s (fun n q => hp n (by simp only [List.flatten_cons, List.mem_append]; exact .inl q)) hn1]
    exact teamsGo_true ts (s ++ t) (fun z hz => hl z (List.mem_cons_of_mem _ hz)) (fun n q => hp n (by simp only [List.flatten_cons, List.mem_append]; exact .inr q)) hn
theorem ropes_ok (m : List S68) : (∀ t ∈ ropesOf m, (2 ≤ t.length ∧ t.length ≤ 3) ∧ leaderOf m t ≠ 0 ∧ leaderOf m t ∈ t) ∧ (areCrew m = true → (0 < (ropesOf m).length ↔ 2 ≤ (healthy m).length) ∧ (0 < (ropesOf m).length → (ropesOf m).flatten.length = (healthy m).length) ∧ teamsGo (wellA m) [] (ropesOf m) = true) ∧ (areCrew m ≠ true → ropesOf m = []) := by
  unfold ropesOf
  by_cases c : areCrew m = true ∧ 2 ≤ (healthy m).length
  · rw [if_pos c]
    have h8 : (healthy m).length ≤ 8 := Nat.le_trans (healthy_len m) (areCrew_len c.1).2
    obtain ⟨fl, pos, le⟩ := rope_teams c.2 h8
    refine ⟨fun t ht => ?_, fun _ => ⟨⟨fun _ => c.2, fun _ => pos⟩, fun _ => by rw [fl], ?_⟩, fun x => absurd c.1 x⟩
    · have hs : ∀ n ∈ t, ∃ x ∈ m, x.f0 = n := by
        intro n hn
        have q : n ∈ healthy m := by
          rw [← fl]
          exact List.mem_flatten.2 ⟨t, ht, hn⟩
        unfold healthy at q
        obtain ⟨x, hx, e⟩ := List.mem_map.1 q
        exact ⟨x, (List.mem_filter.1 hx).1, e⟩
      have li := leader_in (m := m) (t := t) (fun e => by have := (le t ht).1; rw [e] at this; simp at this) hs
      obtain ⟨x, hx, e⟩ := hs _ li
      have := (areCrew_ok c.1 x hx).1
      exact ⟨le t ht, by omega, li⟩
    · have ca := c.1
      unfold areCrew at ca
      rw [Bool.and_eq_true] at ca
      refine teamsGo_true _ _ le (fun n hn => ?_) ?_
      · rw [fl] at hn
        unfold wellA
        exact decide_eq_true hn
      · rw [fl, List.nil_append]
        exact (healthy_asc m 0 ca.1).1
  · rw [if_neg c]
    refine ⟨fun t ht => (by cases ht), fun a => ⟨⟨fun x => absurd x (by simp), fun x => absurd ⟨a, x⟩ c⟩, fun x => absurd x (by simp), rfl⟩, fun _ => rfl⟩
theorem can_ev {l : List S68} (hl : l.length ≤ 100000000) : Ev (fun k => impl_CanRope.f k l) (decide (0 < (ropesOf l).length)) := by
  unfold impl_CanRope.f
  refine Ev.bind (impl_RopeTeams_ev hl) ?_
  have e : decide (((ropesOf l).length : Int) > 0) = decide (0 < (ropesOf l).length) := by
    rw [decide_eq_decide]
    omega
  rw [e]
  exact Ev.now _
theorem ropes_len (m : List S68) : (ropesOf m).length ≤ 4 := by
  unfold ropesOf
  split
  · rename_i c
    have h8 : (healthy m).length ≤ 8 := Nat.le_trans (healthy_len m) (areCrew_len c.1).2
    refine listUpTo8 (p := fun h => (ropeTeams h).length ≤ 4) (healthy m) c.2 h8 ?_ ?_ ?_ ?_ ?_ ?_ ?_
    all_goals
      intros
      simp [ropeTeams]
  · simp
theorem last_ev {l : List Int} (hl : l.length ≤ 1048576) : Ev (fun k => laws_FnRopes.j1 k l false) true := by
  obtain ⟨w, h, c, m, e, hm⟩ := DrawIsWay_ev hl
  have b := iceIn_le c m
  have b2 : 0 ≤ iceOn w h c m ∧ iceOn w h c m ≤ (m.length : Int) := by
    unfold iceOn
    split
    · exact b
    · omega
  refine Ev.step (f := fun k => (spec_DrawIceOn.f k l).bind fun bt => (impl_IceOn.f k bt.1 bt.2.1 bt.2.2.1 bt.2.2.2).bind fun t => if t ≥ 0 then some (decide (t ≤ (bt.2.2.2.length : Int))) else some false) (fun k => ?_) ?_
  · simp only [laws_FnRopes.j1, Bool.false_eq_true, if_false]
  · refine Ev.bind (a := (w, h, c, m)) ?_ (Ev.bind (impl_IceOn_ev w h c (show m.length ≤ 100000000 by omega)) (evPos b2.1 ?_))
    · unfold spec_DrawIceOn.f
      exact Ev.bind e (Ev.now _)
    · rw [decide_eq_true b2.2]
      exact Ev.now _
theorem rest_ev {l : List Int} {m : List S68} (hl : l.length ≤ 1048576) (hm : m.length ≤ 100000000) : Ev (fun k => laws_FnRopes.l0 k l m (ropesOf m) ((ropesOf m).flatten.length : Int) ((ropesOf m).length : Int)) true := by
  obtain ⟨_, ro, rn⟩ := ropes_ok m
  have rl := ropes_len m
  have J := last_ev hl
  have js : ∀ (q : Bool), q = false → Ev (fun k => laws_FnRopes.j1 k l q) true := by
    rintro q rfl
    exact J
  refine Ev.step (f := fun k => (impl_Healthy.f k m).bind fun t590 => ((spec_Healthy.f k m).bind fun t593 => (if (t590.length : Int) = (t593.length : Int) then ((impl_Healthy.f k m).bind fun t596 => ((impl_CanRope.f k m).bind fun t599 => (if (t599 != (decide (((ropesOf m).length : Int) > 0))) = true then (laws_FnRopes.j1 k l true) else ((impl_AreCrew.f k m).bind fun t600 => (if t600 = true then ((impl_AreRoped.f k m (ropesOf m)).bind fun t601 => (if t601 = true then (if ((ropesOf m).length : Int) > 0 then (if ((ropesOf m).flatten.length : Int) = (t596.length : Int) then ((impl_CanRope.f k m).bind fun t602 => ((impl_AreCrew.f k m).bind fun t603 => (if t603 = true then (laws_FnRopes.j1 k l (t602 != (decide ((t596.length : Int) ≥ 2)))) else (laws_FnRopes.j1 k l (t602 != false))))) else (laws_FnRopes.j1 k l true)) else ((impl_CanRope.f k m).bind fun t604 => ((impl_AreCrew.f k m).bind fun t605 => (if t605 = true then (laws_FnRopes.j1 k l (t604 != (decide ((t596.length : Int) ≥ 2)))) else (laws_FnRopes.j1 k l (t604 != false)))))) else (laws_FnRopes.j1 k l true))) else (if ((ropesOf m).length : Int) > 0 then (if ((ropesOf m).flatten.length : Int) = (t596.length : Int) then ((impl_CanRope.f k m).bind fun t606 => ((impl_AreCrew.f k m).bind fun t607 => (if t607 = true then (laws_FnRopes.j1 k l (t606 != (decide ((t596.length : Int) ≥ 2)))) else (laws_FnRopes.j1 k l (t606 != false))))) else (laws_FnRopes.j1 k l true)) else ((impl_CanRope.f k m).bind fun t608 => ((impl_AreCrew.f k m).bind fun t609 => (if t609 = true then (laws_FnRopes.j1 k l (t608 != (decide ((t596.length : Int) ≥ 2)))) else (laws_FnRopes.j1 k l (t608 != false))))))))))) else (some false)))) (fun k => ?_) ?_
  · simp only [laws_FnRopes.l0]
    rw [if_neg (by omega)]
  · refine Ev.bind (impl_Healthy_ev hm) (Ev.bind (spec_Healthy_ev hm) (evPos rfl (Ev.bind (impl_Healthy_ev hm) (Ev.bind (can_ev hm) (evNeg ?_ (Ev.bind (impl_AreCrew_ev hm) ?_))))))
    · rw [show decide (((ropesOf m).length : Int) > 0) = decide (0 < (ropesOf m).length) by rw [decide_eq_decide]; omega]
      simp
    · by_cases a : areCrew m = true
      · obtain ⟨r0, r1, r2⟩ := ro a
        have e2 : decide (0 < (ropesOf m).length) = decide (((healthy m).length : Int) ≥ 2) := by
          rw [decide_eq_decide, r0]
          omega
        have fin : Ev (fun k => (impl_CanRope.f k m).bind fun t => (impl_AreCrew.f k m).bind fun u => if u = true then laws_FnRopes.j1 k l (t != decide (((healthy m).length : Int) ≥ 2)) else laws_FnRopes.j1 k l (t != false)) true := by
          refine Ev.bind (can_ev hm) (Ev.bind (impl_AreCrew_ev hm) (evPos a (js _ ?_)))
          rw [e2]
          simp
        refine evPos a (Ev.bind (impl_AreRoped_ev hm (by omega)) (evPos (by rw [r2, a]; rfl) ?_))
        by_cases p : ((ropesOf m).length : Int) > 0
        · exact evPos p (evPos (by rw [r1 (by omega)]) fin)
        · exact evNeg p fin
      · have e0 := rn a
        have fin : Ev (fun k => (impl_CanRope.f k m).bind fun t => (impl_AreCrew.f k m).bind fun u => if u = true then laws_FnRopes.j1 k l (t != decide (((healthy m).length : Int) ≥ 2)) else laws_FnRopes.j1 k l (t != false)) true := by
          refine Ev.bind (can_ev hm) (Ev.bind (impl_AreCrew_ev hm) (evNeg a (js _ ?_)))
          rw [e0]
          rfl
        refine evNeg a (evNeg (by rw [e0]; simp) fin)
theorem teams_ev {l : List Int} {m : List S68} (hl : l.length ≤ 1048576) (hm : m.length ≤ 100000000) : Ev (fun k => laws_FnRopes.l0 k l m (ropesOf m) 0 0) true := by
  obtain ⟨rt, _, _⟩ := ropes_ok m
  have rl := ropes_len m
  have R := rest_ev (l := l) (m := m) hl hm
  generalize ropesOf m = ts at rt rl R
  exact evScan ts (fun k (s : Int) i => laws_FnRopes.l0 k l m ts s i) (fun _ _ _ => true) (fun s i => s = ((ts.take i).flatten.length : Int) ∧ s ≤ 3 * (i : Int)) (fun s hs => by
      rw [List.take_length] at hs
      rw [hs.1]
      exact R) (fun s i t hi _ hs ih => by
      have ht := rt ts[i] (List.getElem_mem hi)
      have sl : (((ts.take (i + 1)).flatten.length : Nat) : Int) = s + (ts[i].length : Int) := by
        rw [List.take_succ_eq_append_getElem hi, List.flatten_append, List.length_append, hs.1]
        simp
      refine Ev.step (f := fun k => (impl_LeaderOf.f k m ts[i]).bind fun a => if a = 0 then some false else (impl_LeaderOf.f k m ts[i]).bind fun b => (laws_contains.f k ts[i] b).bind fun q => if q = true then laws_FnRopes.l0 k l m ts (s + (ts[i].length : Int)) ((i + 1 : Nat) : Int) else some false) (fun k => ?_) ?_
      · simp only [laws_FnRopes.l0]
        have w0 : 0 ≤ s := by omega
        rw [if_pos (by omega), if_pos (by omega), rdL hi, wrapSucc (by omega), wrapId (n := s + (ts[i].length : Int)) (by omega) (by omega)]
      · have lo := impl_LeaderOf_ev (l := m) (team := ts[i]) hm (by omega)
        exact Ev.bind lo (evNeg ht.2.1 (Ev.bind lo (Ev.bind (contains_ev _ (by omega)) (evPos (decide_eq_true ht.2.2) (ih _ ⟨sl.symm, by omega⟩))))))
    0 ⟨by simp, by omega⟩
def FnRopes.Claim : Prop := ∀ (l0 : List (Int)), l0.length ≤ maxLen → (∀ x ∈ l0, (Lit.int .u8 x).wf = true) → ∃ k, laws_FnRopes.f k l0 = some true
theorem FnRopes : FnRopes.Claim := by
  intro l _ _
  apply Ev.rounds
  unfold laws_FnRopes.f
  rw [big_eq]
  simp only [Option.bind_some]
  by_cases c : (l.length : Int) > 1048576
  · exact evPos (decide_eq_true c) (Ev.now _)
  · refine evNeg (by rw [decide_eq_true_eq]; exact c) ?_
    have hl : l.length ≤ 1048576 := by omega
    obtain ⟨m, e, hm⟩ := DrawRopeTeams_ev hl
    have hm' : m.length ≤ 100000000 := by omega
    exact Ev.bind e (Ev.bind (impl_RopeTeams_ev hm') (teams_ev hl hm'))
end Go.Proofs.Ytdgpnmbmnnmdcaa.Pure
