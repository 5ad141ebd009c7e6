/- The law Places: whatever the bytes of the draw: one is always where one can be, and marks that are seen leave just what they allow: the law's Go function answers true. No condition beyond the kinds of the numbers. -/
import Derived.Test.YtdgpnmbmnnmdcabPFnPlacesx12
import Derived.Test.YtdgpnmbmnnmdcabAid
import Derived.Laws.BitsLemmas
namespace Go.Proofs.Ytdgpnmbmnnmdcab.Pure
open Go.RowKit Go.Proofs.Ytdgpnmbmnnmdcab.PFnPlaces Go.Proofs.Ytdgpnmbmnnmdcab.Aid Go.Proofs.YtdgpnmbmnnmdcabW.PrintWords Go.Proofs.YtdgpnmbmnnmdcabW.PrintLast Go.Proofs.YtdgpnmbmnnmdcabW.PrintMore
set_option linter.unusedVariables false
set_option linter.unusedSimpArgs false
/-- The cursor over the bytes of a draw stands within them. -/
def curOk (b : List Int) (i : Int) : Prop := 0 ≤ i ∧ i ≤ (b.length : Int) ∧ b.length ≤ 1048576
theorem and255 (x : Int) : 0 ≤ Go.bits .and .i64 x 255 ∧ Go.bits .and .i64 x 255 ≤ 255 := by
  have h : (BitVec.ofInt 64 x &&& BitVec.ofInt 64 255).toNat ≤ 255 := by
    rw [BitVec.toNat_and]
    exact Nat.and_le_right
  have e : Go.bits .and .i64 x 255 = IntKind.i64.wrap ((BitVec.ofInt 64 x &&& BitVec.ofInt 64 255).toNat : Int) := rfl
  rw [e, IntKind.wrap_i64]
  omega
theorem l1New_ev {l : List Int} (hl : l.length ≤ 1048576) : ∃ h, Ev (fun k => spec_l1New.f k l) (l, 0, h) := by
  have key : ∀ (d : Nat) (i : Nat) (h : Int), (l.length : Int) - i ≤ d → ∃ r, Ev (fun k => spec_l1New.l0 k l h (i : Int)) (l, 0, r) := by
    intro d
    induction d with
    | zero =>
      intro i h hd
      refine ⟨h, Ev.step (f := fun _ => some (l, 0, h)) (fun k => ?_) (Ev.now _)⟩
      simp only [spec_l1New.l0]
      rw [if_neg (by omega)]
    | succ d ih =>
      intro i h hd
      by_cases c : (i : Int) < (l.length : Int)
      · by_cases c2 : (i : Int) < 4000
        · obtain ⟨r, hr⟩ := ih (i + 1) (Go.bits .and .i64 (wrap64 ((wrap64 ((wrap64 (h * 137)) + (wrap64 (rd l (i : Int))))) + 11)) 1073741823) (by omega)
          refine ⟨r, Ev.step (fun k => ?_) hr⟩
          simp only [spec_l1New.l0]
          rw [if_pos c, if_pos c2, if_pos (by omega), wrapSucc (by omega)]
        · refine ⟨h, Ev.step (f := fun _ => some (l, 0, h)) (fun k => ?_) (Ev.now _)⟩
          simp only [spec_l1New.l0]
          rw [if_pos c, if_neg c2]
      · refine ⟨h, Ev.step (f := fun _ => some (l, 0, h)) (fun k => ?_) (Ev.now _)⟩
        simp only [spec_l1New.l0]
        rw [if_neg c]
  obtain ⟨r, hr⟩ := key l.length 0 (wrap64 (193017 + (l.length : Int))) (by omega)
  refine ⟨r, ?_⟩
  unfold spec_l1New.f
  exact hr
theorem l1Byte_some {b : List Int} {i : Int} (h : Int) (hc : curOk b i) : ∃ x i' h', spec_l1Byte.f b i h = some (x, i', h') ∧ (0 ≤ x ∧ x ≤ 255) ∧ curOk b i' := by
  unfold curOk at hc
  unfold spec_l1Byte.f
  by_cases c : i < (b.length : Int)
  · rw [if_pos c, if_pos hc.1]
    refine ⟨_, _, _, rfl, and255 _, ?_⟩
    rw [wrapId (n := i + 1) (by omega) (by omega)]
    unfold curOk
    omega
  · rw [if_neg c]
    exact ⟨_, _, _, rfl, and255 _, hc⟩
theorem l1Below_some {b : List Int} {i : Int} (h : Int) {n : Int} (hn : 1 ≤ n ∧ n ≤ 256) (hc : curOk b i) : ∃ x i' h', spec_l1Below.f b i h n = some (x, i', h') ∧ (0 ≤ x ∧ x < n) ∧ curOk b i' := by
  unfold spec_l1Below.f
  obtain ⟨x, i', h', e, hx, hc'⟩ := l1Byte_some h hc
  rw [if_neg (by omega), if_pos hn.2, e]
  simp only [Option.bind_some]
  rw [if_neg (by omega), Int.tmod_eq_emod_of_nonneg hx.1]
  exact ⟨_, _, _, rfl, ⟨Int.emod_nonneg _ (by omega), Int.emod_lt_of_pos _ (by omega)⟩, hc'⟩
theorem l1Below_zero (b : List Int) (i h : Int) {n : Int} (hn : n ≤ 0) : spec_l1Below.f b i h n = some (0, i, h) := by
  unfold spec_l1Below.f
  rw [if_pos hn]

theorem l1Int_some {b : List Int} {i : Int} (h : Int) {l : List Int} (hl : 1 ≤ l.length ∧ l.length ≤ 256) (hc : curOk b i) : ∃ x i' h', spec_l1Int.f b i h l = some (x, i', h') ∧ x ∈ l ∧ curOk b i' := by
  unfold spec_l1Int.f
  obtain ⟨x, i', h', e, hx, hc'⟩ := l1Below_some h (n := (l.length : Int)) (by omega) hc
  rw [e]
  simp only [Option.bind_some]
  rw [if_pos hx.1, if_pos hx.2]
  refine ⟨_, _, _, rfl, ?_, hc'⟩
  unfold rd
  rw [getD_lt (by omega)]
  exact List.getElem_mem _

theorem big_eq (l : List Int) : laws_big.f l = some (decide ((l.length : Int) > 1048576)) := rfl
theorem curStart {l : List Int} (hl : l.length ≤ 1048576) : curOk l 0 := by unfold curOk; omega

theorem l1Once_some {b : List Int} {i : Int} (h : Int) {n : Int} (hn : 1 ≤ n ∧ n ≤ 256) (hc : curOk b i) : ∃ q i' h', spec_l1Once.f b i h n = some (q, i', h') ∧ curOk b i' := by
  unfold spec_l1Once.f
  obtain ⟨x, i', h', e, hx, hc'⟩ := l1Below_some h hn hc
  rw [e]
  exact ⟨_, _, _, rfl, hc'⟩

def inB (lo hi : Int) (l : List Int) : Bool := l.all (fun x => decide (lo ≤ x ∧ x ≤ hi))
theorem inB_iff {lo hi : Int} {l : List Int} : inB lo hi l = true ↔ ∀ x ∈ l, lo ≤ x ∧ x ≤ hi := by
  unfold inB
  simp only [List.all_eq_true, decide_eq_true_eq]
theorem inB_yes {lo hi x : Int} {t : List Int} (d : lo ≤ x ∧ x ≤ hi) : inB lo hi (x :: t) = inB lo hi t := by
  simp only [inB, List.all_cons, d, and_self, decide_true, Bool.true_and]
theorem inB_no {lo hi x : Int} {t : List Int} (d : ¬ (lo ≤ x ∧ x ≤ hi)) : inB lo hi (x :: t) = false := by
  simp only [inB, List.all_cons, d, decide_false, Bool.false_and]
/-- A land: its sides, its cells. -/
def landOk (w h : Int) (c : List Int) : Prop := ((1 ≤ w ∧ w ≤ 8) ∧ (1 ≤ h ∧ h ≤ 8)) ∧ (c.length : Int) = w * h ∧ ∀ x ∈ c, 0 ≤ x ∧ x ≤ 2
instance (w h : Int) (c : List Int) : Decidable (landOk w h c) := inferInstanceAs (Decidable (_ ∧ _))
def cellOk (w h : Int) (c : List Int) (n : Int) : Prop := landOk w h c ∧ 0 ≤ n ∧ n < (c.length : Int)
instance (w h : Int) (c : List Int) (n : Int) : Decidable (cellOk w h c n) := inferInstanceAs (Decidable (_ ∧ _))
def openOk (w h : Int) (c : List Int) (n : Int) : Prop := cellOk w h c n ∧ rd c n ≠ 2
instance (w h : Int) (c : List Int) (n : Int) : Decidable (openOk w h c n) := inferInstanceAs (Decidable (_ ∧ _))
theorem sideB {w h : Int} (hw : 1 ≤ w ∧ w ≤ 8) (hh : 1 ≤ h ∧ h ≤ 8) : 1 ≤ w * h ∧ w * h ≤ 64 := by
  have h0 : 1 * 1 ≤ w * h := Int.mul_le_mul hw.1 hh.1 (by omega) (by omega)
  have h1 : w * h ≤ 8 * 8 := Int.mul_le_mul hw.2 hh.2 (by omega) (by omega)
  omega
theorem landOk.len {w h : Int} {c : List Int} (x : landOk w h c) : 1 ≤ c.length ∧ c.length ≤ 64 := by
  have := sideB x.1.1 x.1.2
  have := x.2.1
  omega

theorem l4Raw_some {b : List Int} {i : Int} (s : Int) (hc : curOk b i) : ∃ x i' s', spec_l4Raw.f b i s = some (x, i', s') ∧ curOk b i' := by
  unfold spec_l4Raw.f
  obtain ⟨x, i', s', e, _, c'⟩ := l1Int_some s (l := [(-1), 0, 8, 9, 64, 9223372036854775807, (-9223372036854775808)]) (by decide) hc
  rw [e]
  exact ⟨_, _, _, rfl, c'⟩
theorem l4Draw_loop {b : List Int} {w h : Int} (hw : 2 ≤ w ∧ w ≤ 6) (hh : 2 ≤ h ∧ h ≤ 5) (hp : 4 ≤ w * h ∧ w * h ≤ 30) : ∀ (d : Nat) (acc : List Int) (i s : Int), curOk b i → (acc.length : Int) + (d : Int) = w * h → (∀ x ∈ acc, 0 ≤ x ∧ x ≤ 2) →
    ∃ c i' s', Ev (fun k => spec_l4Draw.l0 k (acc.length : Int) b i s w h acc) (w, h, c, i', s') ∧ curOk b i' ∧ landOk w h c ∧ rd c 0 = 0 := by
  have wp : wrap64 (w * h) = w * h := wrapId (by omega) (by omega)
  intro d
  induction d with
  | zero =>
    intro acc i s hc hl ha
    have hpos : 0 < acc.length := by omega
    refine ⟨acc.set 0 0, i, s, Ev.step (f := fun _ => some (w, h, acc.set 0 0, i, s)) (fun k => ?_) (Ev.now _), hc, ⟨⟨⟨by omega, by omega⟩, ⟨by omega, by omega⟩⟩, by rw [List.length_set]; omega, fun x hx => ?_⟩, ?_⟩
    · simp only [spec_l4Draw.l0]
      rw [wp, if_neg (by omega), if_pos (by omega)]
      rfl
    · rcases List.mem_or_eq_of_mem_set hx with q | rfl
      · exact ha x q
      · omega
    · unfold rd
      rw [show (0 : Int).toNat = 0 from rfl, getD_lt (by rw [List.length_set]; exact hpos), List.getElem_set_self]
  | succ d ih =>
    intro acc i s hc hl ha
    obtain ⟨x, i1, s1, e1, m1, c1⟩ := l1Int_some s (l := [0, 0, 0, 0, 1, 2]) (by decide) hc
    have hx : 0 ≤ x ∧ x ≤ 2 := by
      simp only [List.mem_cons, List.not_mem_nil, or_false] at m1
      omega
    obtain ⟨c, i2, s2, e2, r⟩ := ih (acc ++ [x]) i1 s1 c1 (by rw [List.length_append, List.length_singleton]; omega) (fun y hy => by
      rcases List.mem_append.1 hy with q | q
      · exact ha y q
      · rw [List.mem_singleton] at q
        rw [q]
        exact hx)
    refine ⟨c, i2, s2, Ev.step (fun k => ?_) e2, r⟩
    simp only [spec_l4Draw.l0, e1, Option.bind_some]
    rw [wp, if_pos (by omega), if_pos (by omega), wrapSucc (by omega), List.length_append, List.length_singleton]
theorem l4Draw_ev {b : List Int} {i : Int} (s : Int) (hc : curOk b i) : ∃ w h c i' s', Ev (fun k => spec_l4Draw.f k b i s) (w, h, c, i', s') ∧ curOk b i' ∧ landOk w h c ∧ rd c 0 = 0 ∧ c.length ≤ 30 := by
  unfold spec_l4Draw.f
  obtain ⟨x, i1, s1, e1, b1, c1⟩ := l1Below_some s (n := 5) (by omega) hc
  obtain ⟨y, i2, s2, e2, b2, c2⟩ := l1Below_some s1 (n := 4) (by omega) c1
  have p0 : 2 * 2 ≤ (2 + x) * (2 + y) := Int.mul_le_mul (by omega) (by omega) (by omega) (by omega)
  have p1 : (2 + x) * (2 + y) ≤ 6 * 5 := Int.mul_le_mul (by omega) (by omega) (by omega) (by omega)
  obtain ⟨c, i3, s3, e3, c3, l3, z3⟩ := l4Draw_loop (w := 2 + x) (h := 2 + y) (by omega) (by omega) (by omega) ((2 + x) * (2 + y)).toNat [] i2 s2 c2 (by rw [List.length_nil]; omega) (fun x hx => by cases hx)
  have hl := l3.2.1
  refine ⟨_, _, c, i3, s3, ?_, c3, l3, z3, by omega⟩
  simp only [e1, e2, Option.bind_some]
  rw [wrapId (n := 2 + x) (by omega) (by omega), wrapId (n := 2 + y) (by omega) (by omega)]
  exact e3
theorem l4Any_ev {b : List Int} {i : Int} (s : Int) (hc : curOk b i) : ∃ w h c i' s', Ev (fun k => spec_l4Any.f k b i s) (w, h, c, i', s') ∧ curOk b i' ∧ c.length ≤ 30 := by
  unfold spec_l4Any.f
  obtain ⟨w, h, c, i1, s1, e1, c1, l1, _, n1⟩ := l4Draw_ev s hc
  obtain ⟨x, i2, s2, e2, b2, c2⟩ := l1Below_some s1 (n := 14) (by omega) c1
  have hl := l1.len
  by_cases q0 : x = 0
  · obtain ⟨u, i3, s3, e3, c3⟩ := l4Raw_some s2 c2
    refine ⟨u, h, c, i3, s3, Ev.bind e1 ?_, c3, n1⟩
    simp only [e2, Option.bind_some, if_pos q0, e3]
    exact Ev.now _
  · by_cases q1 : x = 1
    · obtain ⟨u, i3, s3, e3, c3⟩ := l4Raw_some s2 c2
      refine ⟨w, u, c, i3, s3, Ev.bind e1 ?_, c3, n1⟩
      simp only [e2, Option.bind_some, if_neg q0, if_pos q1, e3]
      exact Ev.now _
    · by_cases q2 : x = 2
      · obtain ⟨u, i3, s3, e3, _, c3⟩ := l1Int_some s2 (l := [(-1), 2, 3]) (by decide) c2
        refine ⟨w, h, c.set (0 : Int).toNat u, i3, s3, Ev.bind e1 ?_, c3, by rw [List.length_set]; exact n1⟩
        simp only [e2, Option.bind_some, if_neg q0, if_neg q1, if_pos q2, e3]
        exact evPos (by omega) (Ev.now _)
      · by_cases q3 : x = 3
        · refine ⟨w, h, c.drop (1 : Int).toNat, i2, s2, Ev.bind e1 ?_, c2, Nat.le_trans (by rw [List.length_drop]; omega) n1⟩
          simp only [e2, Option.bind_some, if_neg q0, if_neg q1, if_neg q2, if_pos q3]
          exact evPos (by omega) (Ev.now _)
        · refine ⟨w, h, c, i2, s2, Ev.bind e1 ?_, c2, n1⟩
          simp only [e2, Option.bind_some, if_neg q0, if_neg q1, if_neg q2, if_neg q3]
          exact Ev.now _

theorem l1In_eq (a b c : Int) : spec_l1In.f a b c = some (decide (b ≤ a ∧ a ≤ c)) := by
  unfold spec_l1In.f
  by_cases h : b ≤ a
  · rw [if_pos h]
    simp [h]
  · rw [if_neg h]
    simp [h]

theorem spec_IsLand_ev (w h : Int) (c : List Int) : Ev (fun k => spec_IsLand.f k w h c) (decide (landOk w h c)) := by
  have no : ∀ (q : ¬ landOk w h c), Ev (fun k => spec_IsLand.j0 k true w h c) (decide (landOk w h c)) := by
    intro q
    rw [decide_eq_false q]
    refine Ev.step (f := fun _ => some false) (fun k => ?_) (Ev.now _)
    simp only [spec_IsLand.j0, if_true]
  unfold spec_IsLand.f
  simp only [l1In_eq, Option.bind_some]
  by_cases c0 : 1 ≤ w ∧ w ≤ 8
  · refine evPos (decide_eq_true c0) ?_
    by_cases c1 : 1 ≤ h ∧ h ≤ 8
    · have sb := sideB c0 c1
      refine evPos (decide_eq_true c1) ?_
      rw [wrapId (n := w * h) (by omega) (by omega)]
      by_cases c2 : (c.length : Int) = w * h
      · rw [show ((c.length : Int) != w * h) = false by simp [c2], show decide (landOk w h c) = inB 0 2 c by rw [Bool.eq_iff_iff, decide_eq_true_eq, inB_iff]; exact ⟨fun x => x.2.2, fun x => ⟨⟨c0, c1⟩, c2, x⟩⟩]
        refine Ev.step (f := fun k => spec_IsLand.l0 k 0 w h c) (fun k => ?_) ?_
        · simp only [spec_IsLand.j0, Bool.false_eq_true, if_false]
        exact evScan c (fun k (_ : Unit) i => spec_IsLand.l0 k i w h c) (fun _ _ t => inB 0 2 t) (fun _ _ => True) (fun _ _ => by
          rw [show inB 0 2 [] = true from rfl]
          refine Ev.step (f := fun _ => some true) (fun k => ?_) (Ev.now _)
          simp only [spec_IsLand.l0]
          rw [if_neg (by omega)]) (fun _ i t hi _ _ ih => by
          have st : ∀ k, spec_IsLand.l0 (k + 1) (i : Int) w h c = if decide (0 ≤ c[i] ∧ c[i] ≤ 2) = true then spec_IsLand.l0 k ((i + 1 : Nat) : Int) w h c else some false := by
            intro k
            simp only [spec_IsLand.l0, l1In_eq, Option.bind_some]
            rw [if_pos (by omega), if_pos (by omega), rdIn hi, wrapSucc (by omega)]
          refine Ev.step st ?_
          by_cases d : 0 ≤ c[i] ∧ c[i] ≤ 2
          · refine evPos (decide_eq_true d) ?_
            rw [inB_yes d]
            exact ih () trivial
          · refine evNeg (by rw [decide_eq_true_eq]; exact d) ?_
            rw [inB_no d]
            exact Ev.now _)
          () trivial
      · rw [show ((c.length : Int) != w * h) = true by simp [c2]]
        exact no (fun x => c2 x.2.1)
    · exact evNeg (by rw [decide_eq_true_eq]; exact c1) (no (fun x => c1 x.1.2))
  · exact evNeg (by rw [decide_eq_true_eq]; exact c0) (no (fun x => c0 x.1.1))
theorem spec_IsCell_ev (w h : Int) (c : List Int) (n : Int) : Ev (fun k => spec_IsCell.f k w h c n) (decide (cellOk w h c n)) := by
  unfold spec_IsCell.f
  refine Ev.bind (spec_IsLand_ev w h c) ?_
  by_cases q : landOk w h c
  · refine evPos (decide_eq_true q) ?_
    have := q.len
    simp only [l1In_eq, Option.bind_some]
    rw [wrapId (n := (c.length : Int) - 1) (by omega) (by omega), show decide (cellOk w h c n) = decide (0 ≤ n ∧ n ≤ (c.length : Int) - 1) by rw [decide_eq_decide]; exact ⟨fun x => ⟨x.2.1, by have := x.2.2; omega⟩, fun x => ⟨q, x.1, by omega⟩⟩]
    exact Ev.now _
  · rw [decide_eq_false (fun x : cellOk w h c n => q x.1)]
    exact evNeg (by rw [decide_eq_true_eq]; exact q) (Ev.now _)

theorem spec_IsOpen_ev (w h : Int) (c : List Int) (n : Int) : Ev (fun k => spec_IsOpen.f k w h c n) (decide (openOk w h c n)) := by
  unfold spec_IsOpen.f
  refine Ev.bind (spec_IsCell_ev w h c n) ?_
  by_cases q : cellOk w h c n
  · refine evPos (decide_eq_true q) (evPos q.2.1 (evPos q.2.2 ?_))
    rw [show decide (openOk w h c n) = (rd c n != 2) by rw [Bool.eq_iff_iff, decide_eq_true_eq, bne_iff_ne]; exact ⟨fun x => x.2, fun x => ⟨q, x⟩⟩]
    exact Ev.now _
  · rw [decide_eq_false (fun x : openOk w h c n => q x.1)]
    exact evNeg (by rw [decide_eq_true_eq]; exact q) (Ev.now _)

def absI (x : Int) : Int := if x < 0 then -x else x
/-- How far two cells are from each other. -/
def apart (w h : Int) (c : List Int) (a b : Int) : Int := if cellOk w h c a ∧ cellOk w h c b then absI (a % w - b % w) + absI (a / w - b / w) else -1
theorem modB {w a : Int} (hw : 1 ≤ w ∧ w ≤ 8) (ha : 0 ≤ a) (h1 : a ≤ 64) : Int.tmod a w = a % w ∧ Int.tdiv a w = a / w ∧ 0 ≤ a % w ∧ a % w < 8 ∧ 0 ≤ a / w ∧ a / w ≤ 64 := by
  have e0 := Int.emod_nonneg a (show w ≠ 0 by omega)
  have e1 := Int.emod_lt_of_pos a (show 0 < w by omega)
  have e2 := Int.ediv_nonneg ha (show 0 ≤ w by omega)
  have e3 := Int.ediv_le_self w ha
  exact ⟨Int.tmod_eq_emod_of_nonneg ha, Int.tdiv_eq_ediv_of_nonneg ha, e0, by omega, e2, by omega⟩

/-- The open cells beside the cell n of a land, in the order above, left, right, below. -/
def nearS (w : Int) (c : List Int) (n : Int) : List Int :=
  (if w ≤ n ∧ rd c (n - w) ≠ 2 then [n - w] else []) ++ (if 0 < n % w ∧ rd c (n - 1) ≠ 2 then [n - 1] else []) ++ (if n % w < w - 1 ∧ rd c (n + 1) ≠ 2 then [n + 1] else []) ++ (if n + w < (c.length : Int) ∧ rd c (n + w) ≠ 2 then [n + w] else [])
theorem side8 {w : Int} (hw : 1 ≤ w ∧ w ≤ 8) : w = 1 ∨ w = 2 ∨ w = 3 ∨ w = 4 ∨ w = 5 ∨ w = 6 ∨ w = 7 ∨ w = 8 := by omega
theorem rowMul {w h n : Int} (hw : 1 ≤ w ∧ w ≤ 8) (hn : n < w * h) (hm : n % w < w - 1) : n + 1 < w * h := by
  rcases side8 hw with rfl | rfl | rfl | rfl | rfl | rfl | rfl | rfl <;> omega
theorem apart_up {w n : Int} (hw : 1 ≤ w ∧ w ≤ 8) : absI (n % w - (n - w) % w) + absI (n / w - (n - w) / w) = 1 := by
  unfold absI
  rcases side8 hw with rfl | rfl | rfl | rfl | rfl | rfl | rfl | rfl <;> (repeat' split) <;> omega
theorem apart_down {w n : Int} (hw : 1 ≤ w ∧ w ≤ 8) : absI (n % w - (n + w) % w) + absI (n / w - (n + w) / w) = 1 := by
  unfold absI
  rcases side8 hw with rfl | rfl | rfl | rfl | rfl | rfl | rfl | rfl <;> (repeat' split) <;> omega
theorem apart_left {w n : Int} (hw : 1 ≤ w ∧ w ≤ 8) (h2 : 2 ≤ w) : absI (n % w - (n - 1) % w) + absI (n / w - (n - 1) / w) = 1 ↔ 0 < n % w := by
  unfold absI
  rcases side8 hw with rfl | rfl | rfl | rfl | rfl | rfl | rfl | rfl <;> (repeat' split) <;> omega
theorem apart_right {w n : Int} (hw : 1 ≤ w ∧ w ≤ 8) (h2 : 2 ≤ w) : absI (n % w - (n + 1) % w) + absI (n / w - (n + 1) / w) = 1 ↔ n % w < w - 1 := by
  unfold absI
  rcases side8 hw with rfl | rfl | rfl | rfl | rfl | rfl | rfl | rfl <;> (repeat' split) <;> omega
/-- Beside each other is: one apart. -/
theorem beside {w a b : Int} (hw : 1 ≤ w ∧ w ≤ 8) : absI (a % w - b % w) + absI (a / w - b / w) = 1 ↔ (b = a - w ∨ (b = a - 1 ∧ 0 < a % w) ∨ (b = a + 1 ∧ a % w < w - 1) ∨ b = a + w) := by
  unfold absI
  rcases side8 hw with rfl | rfl | rfl | rfl | rfl | rfl | rfl | rfl <;> (repeat' split) <;> omega
theorem mem_nearS {w h : Int} {c : List Int} (hl : landOk w h c) {a b : Int} (ha : cellOk w h c a) : b ∈ nearS w c a ↔ (openOk w h c b ∧ apart w h c a b = 1) := by
  have hw := hl.1.1
  have ha1 := ha.2.1
  have ha2 := ha.2.2
  have hc := hl.2.1
  have key : (openOk w h c b ∧ apart w h c a b = 1) ↔ ((0 ≤ b ∧ b < (c.length : Int)) ∧ rd c b ≠ 2) ∧ (b = a - w ∨ (b = a - 1 ∧ 0 < a % w) ∨ (b = a + 1 ∧ a % w < w - 1) ∨ b = a + w) := by
    constructor
    · rintro ⟨ho, h1⟩
      unfold apart at h1
      rw [if_pos ⟨ha, ho.1⟩] at h1
      exact ⟨⟨ho.1.2, ho.2⟩, (beside hw).1 h1⟩
    · rintro ⟨⟨hb, hr⟩, h1⟩
      have hb' : cellOk w h c b := ⟨hl, hb⟩
      unfold apart
      rw [if_pos ⟨ha, hb'⟩]
      exact ⟨⟨hb', hr⟩, (beside hw).2 h1⟩
  rw [key]
  unfold nearS
  simp only [List.mem_append]
  have m1 : ∀ (p : Prop) [Decidable p] (x : Int), b ∈ (if p then [x] else []) ↔ p ∧ b = x := by
    intro p _ x
    by_cases q : p
    · simp [q]
    · simp [q]
  rw [m1, m1, m1, m1]
  constructor
  · rintro (((⟨⟨p, q⟩, rfl⟩ | ⟨⟨p, q⟩, rfl⟩) | ⟨⟨p, q⟩, rfl⟩) | ⟨⟨p, q⟩, rfl⟩)
    · exact ⟨⟨⟨by omega, by omega⟩, q⟩, .inl rfl⟩
    · have h0 : 0 < a := by
        rcases Int.lt_or_le 0 a with x | x
        · exact x
        · obtain rfl : a = 0 := by omega
          simp at p
      exact ⟨⟨⟨by omega, by omega⟩, q⟩, .inr (.inl ⟨rfl, p⟩)⟩
    · have := rowMul (h := h) hw (by omega) p
      exact ⟨⟨⟨by omega, by omega⟩, q⟩, .inr (.inr (.inl ⟨rfl, p⟩))⟩
    · exact ⟨⟨⟨by omega, by omega⟩, q⟩, .inr (.inr (.inr rfl))⟩
  · rintro ⟨⟨⟨p0, p1⟩, q⟩, (rfl | ⟨rfl, r⟩ | ⟨rfl, r⟩ | rfl)⟩
    · exact .inl (.inl (.inl ⟨⟨by omega, q⟩, rfl⟩))
    · exact .inl (.inl (.inr ⟨⟨r, q⟩, rfl⟩))
    · exact .inl (.inr ⟨⟨r, q⟩, rfl⟩)
    · exact .inr ⟨⟨p1, q⟩, rfl⟩
theorem absI_neg (x : Int) : absI (-x) = absI x := by
  unfold absI
  repeat' split
  all_goals omega
theorem apart_comm (w h : Int) (c : List Int) (a b : Int) : apart w h c a b = apart w h c b a := by
  unfold apart
  by_cases q : cellOk w h c a ∧ cellOk w h c b
  · rw [if_pos q, if_pos q.symm, ← absI_neg (a % w - b % w), ← absI_neg (a / w - b / w), show -(a % w - b % w) = b % w - a % w by omega, show -(a / w - b / w) = b / w - a / w by omega]
  · rw [if_neg q, if_neg (fun x => q x.symm)]
theorem nearS_len (w : Int) (c : List Int) (n : Int) : (nearS w c n).length ≤ 4 := by
  unfold nearS
  simp only [List.length_append]
  have l1 : ∀ (p : Prop) [Decidable p] (x : Int), (if p then [x] else []).length ≤ 1 := by
    intro p _ x
    by_cases q : p
    · simp [q]
    · simp [q]
  have := l1 (w ≤ n ∧ rd c (n - w) ≠ 2) (n - w)
  have := l1 (0 < n % w ∧ rd c (n - 1) ≠ 2) (n - 1)
  have := l1 (n % w < w - 1 ∧ rd c (n + 1) ≠ 2) (n + 1)
  have := l1 (n + w < (c.length : Int) ∧ rd c (n + w) ≠ 2) (n + w)
  omega

theorem rd_set {d : List Int} {u x y : Int} (hu : 0 ≤ u) (hu1 : u < (d.length : Int)) (hx : 0 ≤ x) : rd (d.set u.toNat y) x = if x = u then y else rd d x := by
  unfold rd
  by_cases e : x = u
  · subst e
    rw [if_pos rfl, List.getD_eq_getElem?_getD, List.getElem?_set_self (by omega)]
    rfl
  · rw [if_neg e, List.getD_eq_getElem?_getD, List.getD_eq_getElem?_getD, List.getElem?_set_ne (by omega)]
/-- How many numbers are below 0. -/
def negs (d : List Int) : Nat := (d.filter (fun x => decide (x < 0))).length
theorem negs_set : ∀ (d : List Int) (i : Nat) (y : Int), i < d.length → d.getD i 0 < 0 → 0 ≤ y → negs (d.set i y) + 1 = negs d
  | [], i, y, h, _, _ => by simp at h
  | x :: t, 0, y, _, hx, hy => by
    have hx' : x < 0 := by simpa using hx
    unfold negs
    rw [List.set_cons_zero, List.filter_cons, List.filter_cons, if_neg (by rw [decide_eq_true_eq]; omega), if_pos (by rw [decide_eq_true_eq]; omega), List.length_cons]
  | x :: t, i + 1, y, h, hx, hy => by
    have ih := negs_set t i y (by simpa using h) (by simpa using hx) hy
    unfold negs at ih ⊢
    rw [List.set_cons_succ, List.filter_cons, List.filter_cons]
    by_cases q : x < 0
    · rw [if_pos (decide_eq_true q), if_pos (decide_eq_true q), List.length_cons, List.length_cons]
      omega
    · rw [if_neg (by rw [decide_eq_true_eq]; exact q), if_neg (by rw [decide_eq_true_eq]; exact q)]
      exact ih
theorem negs_push {d : List Int} {u y : Int} (hu : 0 ≤ u) (hu1 : u < (d.length : Int)) (hn : rd d u < 0) (hy : 0 ≤ y) : negs (d.set u.toNat y) + 1 = negs d := negs_set d u.toNat y (by omega) hn hy
/-- The neighbours of v are gone over: those not seen yet get a number and are queued. -/
def relax (v : Int) : List Int → List Int × List Int → List Int × List Int
  | [], s => s
  | u :: t, s => relax v t (if rd s.1 u < 0 then (s.1.set u.toNat (rd s.1 v + 1), s.2 ++ [u]) else s)
def bfs (adj : Int → List Int) : Nat → List Int → List Int → List Int
  | 0, d, _ => d
  | _ + 1, d, [] => d
  | m + 1, d, v :: t => bfs adj m (relax v (adj v) (d, t)).1 (relax v (adj v) (d, t)).2
structure SI (N m : Nat) (d q : List Int) : Prop where
  len : d.length = N
  mea : 2 * negs d + q.length ≤ m
  qok : ∀ x ∈ q, (0 ≤ x ∧ x < (N : Int)) ∧ 0 ≤ rd d x
  top : ∀ x, 0 ≤ x → x < (N : Int) → rd d x ≤ 1000 - (m : Int)
structure RI (N m : Nat) (v dv : Int) (s : List Int × List Int) : Prop where
  si : SI N m s.1 s.2
  rdv : rd s.1 v = dv
theorem RI.start {N m : Nat} {d t : List Int} {v : Int} (h : SI N (m + 1) d (v :: t)) : RI N m v (rd d v) (d, t) := by
  refine ⟨⟨h.len, ?_, fun x hx => h.qok x (List.mem_cons_of_mem _ hx), fun x h0 h1 => ?_⟩, rfl⟩
  · have := h.mea
    simp only [List.length_cons] at this
    show 2 * negs d + t.length ≤ m
    omega
  · have := h.top x h0 h1
    show rd d x ≤ _
    omega
theorem RI.push {N m : Nat} {v dv u : Int} {s : List Int × List Int} (h : RI N m v dv s) (hv : 0 ≤ v ∧ v < (N : Int)) (hd : 0 ≤ dv) (hb : dv + 1 ≤ 1000 - (m : Int)) (hu : 0 ≤ u ∧ u < (N : Int)) (hn : rd s.1 u < 0) : RI N m v dv (s.1.set u.toNat (dv + 1), s.2 ++ [u]) := by
  have hl : u < (s.1.length : Int) := by rw [h.si.len]; exact hu.2
  have e : ∀ x, 0 ≤ x → rd (s.1.set u.toNat (dv + 1)) x = if x = u then dv + 1 else rd s.1 x := fun x hx => rd_set hu.1 hl hx
  refine ⟨⟨by rw [List.length_set]; exact h.si.len, ?_, fun x hx => ?_, fun x h0 h1 => ?_⟩, ?_⟩
  · have := negs_push (y := dv + 1) hu.1 hl hn (by omega)
    have := h.si.mea
    simp only [List.length_append, List.length_cons, List.length_nil]
    omega
  · have hr : 0 ≤ x ∧ x < (N : Int) := by
      rcases List.mem_append.1 hx with q | q
      · exact (h.si.qok x q).1
      · rw [List.mem_singleton] at q
        rw [q]
        exact hu
    refine ⟨hr, ?_⟩
    show 0 ≤ rd (s.1.set u.toNat (dv + 1)) x
    rw [e x hr.1]
    split
    · omega
    · rename_i ne
      rcases List.mem_append.1 hx with q | q
      · exact (h.si.qok x q).2
      · rw [List.mem_singleton] at q
        exact absurd q ne
  · show rd (s.1.set u.toNat (dv + 1)) x ≤ _
    rw [e x h0]
    split
    · omega
    · exact h.si.top x h0 h1
  · show rd (s.1.set u.toNat (dv + 1)) v = dv
    rw [e v hv.1, if_neg (fun z => by have := h.rdv; rw [z] at this; omega)]
    exact h.rdv
theorem relax_RI {N m : Nat} {v dv : Int} (hv : 0 ≤ v ∧ v < (N : Int)) (hd : 0 ≤ dv) (hb : dv + 1 ≤ 1000 - (m : Int)) : ∀ (nb : List Int) (s : List Int × List Int), (∀ u ∈ nb, 0 ≤ u ∧ u < (N : Int)) → RI N m v dv s → RI N m v dv (relax v nb s)
  | [], s, _, h => h
  | u :: t, s, hn, h => by
    simp only [relax]
    refine relax_RI hv hd hb t _ (fun x hx => hn x (List.mem_cons_of_mem _ hx)) ?_
    by_cases q : rd s.1 u < 0
    · rw [if_pos q, h.rdv]
      exact h.push hv hd hb (hn u List.mem_cons_self) q
    · rw [if_neg q]
      exact h
/-! ### What the numbers tell -/
/-- k is at most n steps from a source. -/
def Wk (adj : Int → List Int) (Src : Int → Prop) : Nat → Int → Prop
  | 0, k => Src k
  | n + 1, k => Wk adj Src n k ∨ ∃ j, Wk adj Src n j ∧ k ∈ adj j
theorem Wk.more {adj : Int → List Int} {Src : Int → Prop} {k : Int} {n : Nat} (h : Wk adj Src n k) : ∀ {m : Nat}, n ≤ m → Wk adj Src m k
  | 0, hm => by
    obtain rfl : n = 0 := by omega
    exact h
  | m + 1, hm => by
    rcases Nat.lt_or_ge n (m + 1) with q | q
    · exact .inl (Wk.more h (by omega))
    · obtain rfl : n = m + 1 := by omega
      exact h
theorem Wk.one {adj : Int → List Int} {Src : Int → Prop} : ∀ {n : Nat} {k : Int}, Wk adj Src n k ↔ ∃ a, Src a ∧ Wk adj (fun x => x = a) n k
  | 0, k => ⟨fun h => ⟨k, h, rfl⟩, fun ⟨a, h, e⟩ => by obtain rfl : k = a := e; exact h⟩
  | n + 1, k => by
    constructor
    · rintro (h | ⟨j, h, hk⟩)
      · obtain ⟨a, ha, hw⟩ := Wk.one.1 h
        exact ⟨a, ha, .inl hw⟩
      · obtain ⟨a, ha, hw⟩ := Wk.one.1 h
        exact ⟨a, ha, .inr ⟨j, hw, hk⟩⟩
    · rintro ⟨a, ha, (h | ⟨j, h, hk⟩)⟩
      · exact .inl (Wk.one.2 ⟨a, ha, h⟩)
      · exact .inr ⟨j, Wk.one.2 ⟨a, ha, h⟩, hk⟩
structure Inv (adj : Int → List Int) (N : Nat) (Src : Int → Prop) (d q : List Int) : Prop where
  src : ∀ x, 0 ≤ x → x < (N : Int) → Src x → rd d x = 0
  snd : ∀ x, 0 ≤ x → x < (N : Int) → 0 ≤ rd d x → Wk adj Src (rd d x).toNat x
  srt : q.Pairwise (fun x y => rd d x ≤ rd d y)
  top : ∀ x, 0 ≤ x → x < (N : Int) → ∀ y ∈ q, rd d x ≤ rd d y + 1
  fin : ∀ x, 0 ≤ x → x < (N : Int) → 0 ≤ rd d x → ¬ x ∈ q → ∀ u ∈ adj x, 0 ≤ rd d u ∧ rd d u ≤ rd d x + 1
structure In1 (adj : Int → List Int) (N : Nat) (Src : Int → Prop) (v dv : Int) (s : List Int × List Int) : Prop where
  src : ∀ x, 0 ≤ x → x < (N : Int) → Src x → rd s.1 x = 0
  snd : ∀ x, 0 ≤ x → x < (N : Int) → 0 ≤ rd s.1 x → Wk adj Src (rd s.1 x).toNat x
  srt : s.2.Pairwise (fun x y => rd s.1 x ≤ rd s.1 y)
  top : ∀ x, 0 ≤ x → x < (N : Int) → rd s.1 x ≤ dv + 1
  low : ∀ y ∈ s.2, dv ≤ rd s.1 y
  fin : ∀ x, 0 ≤ x → x < (N : Int) → 0 ≤ rd s.1 x → ¬ x ∈ s.2 → x ≠ v → ∀ u ∈ adj x, 0 ≤ rd s.1 u ∧ rd s.1 u ≤ rd s.1 x + 1
theorem In1.push {adj : Int → List Int} {N m : Nat} {Src : Int → Prop} {v dv u : Int} {s : List Int × List Int} (ha : ∀ x, 0 ≤ x → x < (N : Int) → ∀ y ∈ adj x, 0 ≤ y ∧ y < (N : Int)) (hr : RI N m v dv s) (h : In1 adj N Src v dv s) (hv : 0 ≤ v ∧ v < (N : Int)) (hd : 0 ≤ dv) (hu : u ∈ adj v) (hn : rd s.1 u < 0) : In1 adj N Src v dv (s.1.set u.toNat (dv + 1), s.2 ++ [u]) := by
  have hur := ha v hv.1 hv.2 u hu
  have hl : u < (s.1.length : Int) := by rw [hr.si.len]; exact hur.2
  have e : ∀ x, 0 ≤ x → rd (s.1.set u.toNat (dv + 1)) x = if x = u then dv + 1 else rd s.1 x := fun x hx => rd_set hur.1 hl hx
  have eu : rd (s.1.set u.toNat (dv + 1)) u = dv + 1 := by rw [e u hur.1, if_pos rfl]
  have ne : ∀ x, 0 ≤ x → 0 ≤ rd s.1 x → rd (s.1.set u.toNat (dv + 1)) x = rd s.1 x := by
    intro x hx h0
    rw [e x hx, if_neg]
    rintro rfl
    omega
  have q0 : ∀ x ∈ s.2, 0 ≤ x ∧ 0 ≤ rd s.1 x := fun x hx => ⟨(hr.si.qok x hx).1.1, (hr.si.qok x hx).2⟩
  refine ⟨fun x h0 h1 hs => ?_, fun x h0 h1 hx => ?_, ?_, fun x h0 h1 => ?_, fun y hy => ?_, fun x h0 h1 hx hq hxv y hy => ?_⟩
  · have := h.src x h0 h1 hs
    show rd (s.1.set u.toNat (dv + 1)) x = 0
    rw [ne x h0 (by omega), this]
  · show Wk adj Src (rd (s.1.set u.toNat (dv + 1)) x).toNat x
    by_cases c : x = u
    · subst c
      rw [eu]
      have wv := h.snd v hv.1 hv.2 (by rw [hr.rdv]; exact hd)
      rw [hr.rdv] at wv
      rw [show (dv + 1).toNat = dv.toNat + 1 by omega]
      exact .inr ⟨v, wv, hu⟩
    · have e1 : rd (s.1.set u.toNat (dv + 1)) x = rd s.1 x := by rw [e x h0, if_neg c]
      have hx' : 0 ≤ rd (s.1.set u.toNat (dv + 1)) x := hx
      rw [e1] at hx' ⊢
      exact h.snd x h0 h1 hx'
  · show (s.2 ++ [u]).Pairwise (fun x y => rd (s.1.set u.toNat (dv + 1)) x ≤ rd (s.1.set u.toNat (dv + 1)) y)
    rw [List.pairwise_append]
    refine ⟨h.srt.imp_of_mem (fun {a b} haq hbq hab => ?_), List.pairwise_singleton _ _, fun a haq b hb => ?_⟩
    · rw [ne a (q0 a haq).1 (q0 a haq).2, ne b (q0 b hbq).1 (q0 b hbq).2]
      exact hab
    · rw [List.mem_singleton] at hb
      rw [hb, eu, ne a (q0 a haq).1 (q0 a haq).2]
      exact h.top a (q0 a haq).1 (hr.si.qok a haq).1.2
  · show rd (s.1.set u.toNat (dv + 1)) x ≤ dv + 1
    rw [e x h0]
    split
    · omega
    · exact h.top x h0 h1
  · show dv ≤ rd (s.1.set u.toNat (dv + 1)) y
    rcases List.mem_append.1 hy with q | q
    · rw [ne y (q0 y q).1 (q0 y q).2]
      exact h.low y q
    · rw [List.mem_singleton] at q
      rw [q, eu]
      omega
  · show 0 ≤ rd (s.1.set u.toNat (dv + 1)) y ∧ rd (s.1.set u.toNat (dv + 1)) y ≤ rd (s.1.set u.toNat (dv + 1)) x + 1
    have hq1 : ¬ x ∈ s.2 := fun z => hq (List.mem_append_left _ z)
    have hxu : x ≠ u := fun z => hq (List.mem_append_right _ (by rw [List.mem_singleton]; exact z))
    have e1 : rd (s.1.set u.toNat (dv + 1)) x = rd s.1 x := by rw [e x h0, if_neg hxu]
    have hx' : 0 ≤ rd (s.1.set u.toNat (dv + 1)) x := hx
    rw [e1] at hx' ⊢
    have old := h.fin x h0 h1 hx' hq1 hxv y hy
    rw [ne y (ha x h0 h1 y hy).1 old.1]
    exact old
theorem relax_keep {N m : Nat} {v dv : Int} (hv : 0 ≤ v ∧ v < (N : Int)) (hd : 0 ≤ dv) (hb : dv + 1 ≤ 1000 - (m : Int)) : ∀ (nb : List Int) (s : List Int × List Int), (∀ u ∈ nb, 0 ≤ u ∧ u < (N : Int)) → RI N m v dv s → ∀ x, 0 ≤ x → 0 ≤ rd s.1 x → rd (relax v nb s).1 x = rd s.1 x
  | [], s, _, _, _, _, _ => rfl
  | u :: t, s, hn, h, x, h0, hx => by
    simp only [relax]
    have hu := hn u List.mem_cons_self
    by_cases q : rd s.1 u < 0
    · rw [if_pos q, h.rdv]
      have e := rd_set (y := dv + 1) hu.1 (show u < (s.1.length : Int) by rw [h.si.len]; exact hu.2) h0
      rw [if_neg (fun z => by rw [z] at hx; omega)] at e
      rw [relax_keep hv hd hb t _ (fun z hz => hn z (List.mem_cons_of_mem _ hz)) (h.push hv hd hb hu q) x h0 (by show 0 ≤ rd (s.1.set u.toNat (dv + 1)) x; rw [e]; exact hx)]
      exact e
    · rw [if_neg q]
      exact relax_keep hv hd hb t s (fun z hz => hn z (List.mem_cons_of_mem _ hz)) h x h0 hx
theorem relax_done {N m : Nat} {v dv : Int} (hv : 0 ≤ v ∧ v < (N : Int)) (hd : 0 ≤ dv) (hb : dv + 1 ≤ 1000 - (m : Int)) : ∀ (nb : List Int) (s : List Int × List Int), (∀ u ∈ nb, 0 ≤ u ∧ u < (N : Int)) → RI N m v dv s → ∀ x ∈ nb, 0 ≤ rd (relax v nb s).1 x
  | [], _, _, _, x, hx => by cases hx
  | u :: t, s, hn, h, x, hx => by
    have hu := hn u List.mem_cons_self
    have ht : ∀ z ∈ t, 0 ≤ z ∧ z < (N : Int) := fun z hz => hn z (List.mem_cons_of_mem _ hz)
    simp only [relax]
    by_cases q : rd s.1 u < 0
    · rw [if_pos q, h.rdv]
      have hp := h.push hv hd hb hu q
      rcases List.mem_cons.1 hx with rfl | hx
      · have e := rd_set (y := dv + 1) hu.1 (show x < (s.1.length : Int) by rw [h.si.len]; exact hu.2) hu.1
        rw [if_pos rfl] at e
        have := relax_keep hv hd hb t _ ht hp x hu.1 (by show 0 ≤ rd (s.1.set x.toNat (dv + 1)) x; rw [e]; omega)
        rw [this]
        show 0 ≤ rd (s.1.set x.toNat (dv + 1)) x
        rw [e]
        omega
      · exact relax_done hv hd hb t _ ht hp x hx
    · rw [if_neg q]
      rcases List.mem_cons.1 hx with rfl | hx
      · rw [relax_keep hv hd hb t s ht h x hu.1 (by omega)]
        omega
      · exact relax_done hv hd hb t s ht h x hx
theorem relax_In1 {adj : Int → List Int} {N m : Nat} {Src : Int → Prop} {v dv : Int} (ha : ∀ x, 0 ≤ x → x < (N : Int) → ∀ y ∈ adj x, 0 ≤ y ∧ y < (N : Int)) (hv : 0 ≤ v ∧ v < (N : Int)) (hd : 0 ≤ dv) (hb : dv + 1 ≤ 1000 - (m : Int)) : ∀ (nb : List Int) (s : List Int × List Int), (∀ u ∈ nb, u ∈ adj v) → RI N m v dv s → In1 adj N Src v dv s → In1 adj N Src v dv (relax v nb s)
  | [], s, _, _, h => h
  | u :: t, s, hn, hr, h => by
    simp only [relax]
    have hu := hn u List.mem_cons_self
    by_cases q : rd s.1 u < 0
    · rw [if_pos q, hr.rdv]
      exact relax_In1 ha hv hd hb t _ (fun x hx => hn x (List.mem_cons_of_mem _ hx)) (hr.push hv hd hb (ha v hv.1 hv.2 u hu) q) (h.push ha hr hv hd hu q)
    · rw [if_neg q]
      exact relax_In1 ha hv hd hb t s (fun x hx => hn x (List.mem_cons_of_mem _ hx)) hr h
theorem bfs_step {adj : Int → List Int} {N m : Nat} {Src : Int → Prop} {d t : List Int} {v : Int} (ha : ∀ x, 0 ≤ x → x < (N : Int) → ∀ y ∈ adj x, 0 ≤ y ∧ y < (N : Int)) (hs : SI N (m + 1) d (v :: t)) (h : Inv adj N Src d (v :: t)) :
    SI N m (relax v (adj v) (d, t)).1 (relax v (adj v) (d, t)).2 ∧ Inv adj N Src (relax v (adj v) (d, t)).1 (relax v (adj v) (d, t)).2 := by
  have hv := (hs.qok v List.mem_cons_self).1
  have hd := (hs.qok v List.mem_cons_self).2
  have hb : rd d v + 1 ≤ 1000 - (m : Int) := by
    have := hs.top v hv.1 hv.2
    omega
  have r0 := RI.start hs
  have hn := ha v hv.1 hv.2
  have r1 := relax_RI hv hd hb (adj v) (d, t) hn r0
  have dn := relax_done hv hd hb (adj v) (d, t) hn r0
  have srt := List.pairwise_cons.1 h.srt
  have i0 : In1 adj N Src v (rd d v) (d, t) := ⟨h.src, h.snd, srt.2, fun x h0 h1 => h.top x h0 h1 v List.mem_cons_self, fun y hy => srt.1 y hy, fun x h0 h1 hx hq hxv => h.fin x h0 h1 hx (fun z => by
    rcases List.mem_cons.1 z with e | e
    · exact hxv e
    · exact hq e)⟩
  have i1 := relax_In1 ha hv hd hb (adj v) (d, t) (fun _ hu => hu) r0 i0
  refine ⟨r1.si, i1.src, i1.snd, i1.srt, fun x h0 h1 y hy => ?_, fun x h0 h1 hx hq u hu => ?_⟩
  · have := i1.top x h0 h1
    have := i1.low y hy
    omega
  · by_cases c : x = v
    · subst c
      have := i1.top u (hn u hu).1 (hn u hu).2
      rw [r1.rdv]
      exact ⟨dn u hu, this⟩
    · exact i1.fin x h0 h1 hx hq c u hu
theorem bfs_inv {adj : Int → List Int} {N : Nat} {Src : Int → Prop} (ha : ∀ x, 0 ≤ x → x < (N : Int) → ∀ y ∈ adj x, 0 ≤ y ∧ y < (N : Int)) : ∀ (m : Nat) (d q : List Int), SI N m d q → Inv adj N Src d q → Inv adj N Src (bfs adj m d q) [] ∧ (bfs adj m d q).length = N ∧ ∀ x, 0 ≤ x → x < (N : Int) → rd (bfs adj m d q) x ≤ 1000
  | 0, d, q, hs, h => by
    have : q = [] := List.length_eq_zero_iff.1 (by have := hs.mea; omega)
    subst this
    exact ⟨h, hs.len, fun x h0 h1 => by have := hs.top x h0 h1; show rd d x ≤ 1000; omega⟩
  | m + 1, d, [], hs, h => ⟨h, hs.len, fun x h0 h1 => by have := hs.top x h0 h1; show rd d x ≤ 1000; omega⟩
  | m + 1, d, v :: t, hs, h => by
    obtain ⟨s1, h1⟩ := bfs_step ha hs h
    exact bfs_inv ha m _ _ s1 h1
/-- The numbers at the end: at most n just where n steps are enough. -/
theorem Inv.tells {adj : Int → List Int} {N : Nat} {Src : Int → Prop} {D : List Int} (ha : ∀ x, 0 ≤ x → x < (N : Int) → ∀ y ∈ adj x, 0 ≤ y ∧ y < (N : Int)) (hsrc : ∀ x, Src x → 0 ≤ x ∧ x < (N : Int)) (h : Inv adj N Src D []) : ∀ (n : Nat) (k : Int), 0 ≤ k → k < (N : Int) → ((0 ≤ rd D k ∧ rd D k ≤ (n : Int)) ↔ Wk adj Src n k) := by
  have up : ∀ (n : Nat) (k : Int), Wk adj Src n k → (0 ≤ k ∧ k < (N : Int)) ∧ 0 ≤ rd D k ∧ rd D k ≤ (n : Int) := by
    intro n
    induction n with
    | zero =>
      intro k hk
      have hr := hsrc k hk
      have := h.src k hr.1 hr.2 hk
      exact ⟨hr, by omega, by omega⟩
    | succ n ih =>
      rintro k (hk | ⟨j, hj, hk⟩)
      · have := ih k hk
        exact ⟨this.1, this.2.1, by have := this.2.2; omega⟩
      · have hj' := ih j hj
        have := h.fin j hj'.1.1 hj'.1.2 hj'.2.1 (by simp) k hk
        exact ⟨ha j hj'.1.1 hj'.1.2 k hk, this.1, by have := hj'.2.2; omega⟩
  intro n k h0 h1
  exact ⟨fun hk => (h.snd k h0 h1 hk.1).more (by omega), fun hk => (up n k hk).2⟩

theorem adj_in {w h : Int} {c : List Int} (hl : landOk w h c) : ∀ x, 0 ≤ x → x < (c.length : Int) → ∀ y ∈ nearS w c x, 0 ≤ y ∧ y < (c.length : Int) := fun x h0 h1 y hy => ((mem_nearS hl ⟨hl, h0, h1⟩).1 hy).1.1.2
/-- Where one begins: the open cells of a list, each once. -/
def seeds (w h : Int) (c : List Int) : List Int → List Int × List Int → List Int × List Int
  | [], s => s
  | a :: t, s => seeds w h c t (if openOk w h c a ∧ rd s.1 a < 0 then (s.1.set a.toNat 0, s.2 ++ [a]) else s)
structure Sd (w h : Int) (c : List Int) (S : Int → Prop) (s : List Int × List Int) : Prop where
  len : s.1.length = c.length
  mea : 2 * negs s.1 + s.2.length ≤ 2 * c.length
  all : ∀ x, 0 ≤ x → x < (c.length : Int) → (rd s.1 x = 0 ∧ x ∈ s.2 ∧ S x) ∨ (rd s.1 x = -1 ∧ ¬ x ∈ s.2)
  rng : ∀ x ∈ s.2, 0 ≤ x ∧ x < (c.length : Int)
theorem Sd.push {w h : Int} {c : List Int} {S : Int → Prop} {s : List Int × List Int} (hs : Sd w h c S s) {a : Int} (ho : openOk w h c a) (hS : S a) (hn : rd s.1 a < 0) : Sd w h c S (s.1.set a.toNat 0, s.2 ++ [a]) := by
  have hr := ho.1.2
  have hl : a < (s.1.length : Int) := by rw [hs.len]; exact hr.2
  have e : ∀ x, 0 ≤ x → rd (s.1.set a.toNat 0) x = if x = a then 0 else rd s.1 x := fun x hx => rd_set hr.1 hl hx
  refine ⟨by rw [List.length_set]; exact hs.len, ?_, fun x h0 h1 => ?_, fun x hx => ?_⟩
  · have := negs_push (y := 0) hr.1 hl hn (by omega)
    have := hs.mea
    simp only [List.length_append, List.length_cons, List.length_nil]
    omega
  · show (rd (s.1.set a.toNat 0) x = 0 ∧ x ∈ s.2 ++ [a] ∧ S x) ∨ (rd (s.1.set a.toNat 0) x = -1 ∧ ¬ x ∈ s.2 ++ [a])
    rw [e x h0, List.mem_append, List.mem_singleton]
    by_cases q : x = a
    · rw [if_pos q]
      exact .inl ⟨rfl, .inr q, by rw [q]; exact hS⟩
    · rw [if_neg q]
      rcases hs.all x h0 h1 with p | p
      · exact .inl ⟨p.1, .inl p.2.1, p.2.2⟩
      · exact .inr ⟨p.1, fun z => z.elim p.2 q⟩
  · rcases List.mem_append.1 hx with q | q
    · exact hs.rng x q
    · rw [List.mem_singleton] at q
      rw [q]
      exact hr
theorem seeds_Sd {w h : Int} {c : List Int} {S : Int → Prop} : ∀ (l : List Int) (s : List Int × List Int), (∀ a ∈ l, openOk w h c a → S a) → Sd w h c S s → Sd w h c S (seeds w h c l s) ∧ (∀ x, 0 ≤ x → rd s.1 x = 0 → rd (seeds w h c l s).1 x = 0) ∧ ∀ a ∈ l, openOk w h c a → rd (seeds w h c l s).1 a = 0
  | [], s, _, h => ⟨h, fun _ _ z => z, fun a ha => by cases ha⟩
  | a :: t, s, hS, hs => by
    simp only [seeds]
    by_cases q : openOk w h c a ∧ rd s.1 a < 0
    · rw [if_pos q]
      have hr := q.1.1.2
      have e : ∀ x, 0 ≤ x → rd (s.1.set a.toNat 0) x = if x = a then 0 else rd s.1 x := fun x hx => rd_set hr.1 (by rw [hs.len]; exact hr.2) hx
      obtain ⟨r0, r1, r2⟩ := seeds_Sd t _ (fun b hb => hS b (List.mem_cons_of_mem _ hb)) (hs.push q.1 (hS a List.mem_cons_self q.1) q.2)
      refine ⟨r0, fun x h0 hx => r1 x h0 ?_, fun b hb ho => ?_⟩
      · show rd (s.1.set a.toNat 0) x = 0
        rw [e x h0]
        split
        · rfl
        · exact hx
      · rcases List.mem_cons.1 hb with rfl | hb
        · refine r1 b hr.1 ?_
          show rd (s.1.set b.toNat 0) b = 0
          rw [e b hr.1, if_pos rfl]
        · exact r2 b hb ho
    · rw [if_neg q]
      obtain ⟨r0, r1, r2⟩ := seeds_Sd t s (fun b hb => hS b (List.mem_cons_of_mem _ hb)) hs
      refine ⟨r0, r1, fun b hb ho => ?_⟩
      rcases List.mem_cons.1 hb with rfl | hb
      · refine r1 b ho.1.2.1 ?_
        rcases hs.all b ho.1.2.1 ho.1.2.2 with p | p
        · exact p.1
        · exact absurd ⟨ho, by omega⟩ q
      · exact r2 b hb ho
def blank (c : List Int) : List Int × List Int := (List.replicate c.length (-1), [])
theorem blank_rd (c : List Int) (x : Int) (h0 : 0 ≤ x) (h1 : x < (c.length : Int)) : rd (blank c).1 x = -1 := by
  unfold rd blank
  rw [List.getD_eq_getElem?_getD, List.getElem?_replicate, if_pos (by omega)]
  rfl
theorem blank_Sd (w h : Int) (c : List Int) (S : Int → Prop) : Sd w h c S (blank c) := by
  refine ⟨by simp [blank], ?_, fun x h0 h1 => .inr ⟨blank_rd c x h0 h1, by simp [blank]⟩, fun x hx => by simp [blank] at hx⟩
  have : negs (blank c).1 ≤ (blank c).1.length := List.length_filter_le _ _
  simp only [blank, List.length_replicate, List.length_nil] at this ⊢
  omega
/-- The steps from the open cells of a list to each cell, -1 where there is no way. -/
def distS (w h : Int) (c : List Int) (l : List Int) : List Int := bfs (nearS w c) 200 (seeds w h c l (blank c)).1 (seeds w h c l (blank c)).2
def srcS (w h : Int) (c l : List Int) (a : Int) : Prop := a ∈ l ∧ openOk w h c a
theorem seeds_SI {w h : Int} {c : List Int} (hl : landOk w h c) (l : List Int) : SI c.length 200 (seeds w h c l (blank c)).1 (seeds w h c l (blank c)).2 := by
  obtain ⟨r0, -, -⟩ := seeds_Sd (S := srcS w h c l) l (blank c) (fun a ha ho => ⟨ha, ho⟩) (blank_Sd w h c _)
  have := hl.len
  refine ⟨r0.len, by have := r0.mea; omega, fun x hx => ⟨r0.rng x hx, ?_⟩, fun x h0 h1 => ?_⟩
  · rcases r0.all x (r0.rng x hx).1 (r0.rng x hx).2 with p | p
    · omega
    · exact absurd hx p.2
  · rcases r0.all x h0 h1 with p | p <;> omega
theorem seeds_Inv {w h : Int} {c : List Int} (hl : landOk w h c) (l : List Int) : Inv (nearS w c) c.length (srcS w h c l) (seeds w h c l (blank c)).1 (seeds w h c l (blank c)).2 := by
  obtain ⟨r0, -, r2⟩ := seeds_Sd (S := srcS w h c l) l (blank c) (fun a ha ho => ⟨ha, ho⟩) (blank_Sd w h c _)
  have z : ∀ x ∈ (seeds w h c l (blank c)).2, rd (seeds w h c l (blank c)).1 x = 0 := by
    intro x hx
    rcases r0.all x (r0.rng x hx).1 (r0.rng x hx).2 with p | p
    · exact p.1
    · exact absurd hx p.2
  refine ⟨fun x h0 h1 hs => r2 x hs.1 hs.2, fun x h0 h1 hx => ?_, ?_, fun x h0 h1 y hy => ?_, fun x h0 h1 hx hq => ?_⟩
  · rcases r0.all x h0 h1 with p | p
    · rw [p.1]
      exact p.2.2
    · omega
  · refine List.Pairwise.imp_of_mem (R := fun _ _ => True) (fun {a b} ha hb _ => ?_) (List.pairwise_of_forall (fun _ _ => trivial))
    rw [z a ha, z b hb]
    exact Int.le_refl _
  · rw [z y hy]
    rcases r0.all x h0 h1 with p | p <;> omega
  · rcases r0.all x h0 h1 with p | p
    · exact absurd p.2.1 hq
    · omega
theorem dist_tells {w h : Int} {c : List Int} (hl : landOk w h c) (l : List Int) (n : Nat) (k : Int) (h0 : 0 ≤ k) (h1 : k < (c.length : Int)) : (0 ≤ rd (distS w h c l) k ∧ rd (distS w h c l) k ≤ (n : Int)) ↔ Wk (nearS w c) (srcS w h c l) n k :=
  (bfs_inv (adj_in hl) 200 _ _ (seeds_SI hl l) (seeds_Inv hl l)).1.tells (adj_in hl) (fun x hx => hx.2.1.2) n k h0 h1
theorem dist_len {w h : Int} {c : List Int} (hl : landOk w h c) (l : List Int) : (distS w h c l).length = c.length := (bfs_inv (adj_in hl) 200 _ _ (seeds_SI hl l) (seeds_Inv hl l)).2.1
theorem dist_top {w h : Int} {c : List Int} (hl : landOk w h c) (l : List Int) (k : Int) (h0 : 0 ≤ k) (h1 : k < (c.length : Int)) : rd (distS w h c l) k ≤ 1000 := (bfs_inv (adj_in hl) 200 _ _ (seeds_SI hl l) (seeds_Inv hl l)).2.2 k h0 h1
/-- From one open cell. -/
theorem seeds_one {w h : Int} {c : List Int} {a : Int} (ho : openOk w h c a) : seeds w h c [a] (blank c) = ((blank c).1.set a.toNat 0, [a]) := by
  simp only [seeds]
  rw [if_pos ⟨ho, by rw [blank_rd c a ho.1.2.1 ho.1.2.2]; omega⟩]
  rfl

theorem evAfter {α : Type} {g : Nat → Option α} {r : α} (n : Nat) (h : ∀ k, g (k + n) = some r) : Ev g r := ⟨n, fun k hk => by have := h (k - n); rwa [Nat.sub_add_cancel hk] at this⟩

theorem spec_l4Near_ev {w h : Int} {c : List Int} {n : Int} (hn : cellOk w h c n) : Ev (fun k => spec_l4Near.f k w h c n) (nearS w c n) := by
  have hw := hn.1.1.1
  have hc := hn.1.2.1
  have hlen := hn.1.len
  have h0 := hn.2.1
  have h1 := hn.2.2
  obtain ⟨me, -, m0, m1, -, -⟩ := modB hw h0 (by omega)
  have cond : ∀ (p : Prop) [Decidable p] (x m : Int), p → (if ((rd c x) != 2) = true then [m] else []) = (if p ∧ rd c x ≠ 2 then [m] else []) := by
    intro p _ x m hp
    by_cases q : rd c x = 2
    · rw [if_neg (by simp [q]), if_neg (fun z => z.2 q)]
    · rw [if_pos (by simp [q]), if_pos ⟨hp, q⟩]
  have ncond : ∀ (p : Prop) [Decidable p] (x m : Int), ¬ p → (if false = true then [m] else []) = (if p ∧ rd c x ≠ 2 then [m] else []) := by
    intro p _ x m hp
    rw [if_neg (by simp), if_neg (fun z => hp z.1)]
  have ten : ∀ (o : List Int) (b : Bool) (m : Int), (o ++ if b = true then [m] else []).length ≤ o.length + 1 := by
    intro o b m
    cases b <;> simp
  have j4 : ∀ (k : Nat) (o : List Int) (b : Bool), o.length ≤ 10 → spec_l4Near.j4 (k + 1) n o b w h c = some ((o ++ if b = true then [n + 1] else []) ++ if n + w < (c.length : Int) ∧ rd c (n + w) ≠ 2 then [n + w] else []) := by
    intro k o b ho
    simp only [spec_l4Near.j4]
    rw [wrapId (n := n + w) (by omega) (by omega), wrapId (n := n + 1) (by omega) (by omega), if_pos (show o.length < 17592186044416 by omega), if_pos (show o.length < 17592186044416 by omega)]
    simp only [Option.bind_some, if_pos (show (0 : Int) ≤ n + w by omega)]
    rw [if_pos (show (o ++ [n + 1]).length < 17592186044416 by simp; omega)]
    by_cases q : n + w < (c.length : Int)
    · by_cases r : rd c (n + w) = 2
      · cases b <;> simp [q, r]
      · cases b <;> simp [q, r]
    · cases b <;> simp [q]
  have j3 : ∀ (k : Nat) (o : List Int), o.length ≤ 10 → spec_l4Near.j3 (k + 2) n o w h c = some ((o ++ if n % w < w - 1 ∧ rd c (n + 1) ≠ 2 then [n + 1] else []) ++ if n + w < (c.length : Int) ∧ rd c (n + w) ≠ 2 then [n + w] else []) := by
    intro k o ho
    simp only [spec_l4Near.j3]
    rw [if_neg (show ¬ w = 0 by omega), me, wrapId (n := w - 1) (by omega) (by omega), wrapId (n := n + 1) (by omega) (by omega)]
    by_cases q : n % w < w - 1
    · have := rowMul (h := h) hw (by omega) q
      rw [if_pos q, if_pos (by omega), if_pos (by omega), j4 k o _ ho, cond _ _ _ q]
    · rw [if_neg q, j4 k o _ ho, ncond _ (n + 1) _ q]
  have j2 : ∀ (k : Nat) (o : List Int) (b : Bool), o.length ≤ 9 → spec_l4Near.j2 (k + 3) n o b w h c = some (((o ++ if b = true then [n - 1] else []) ++ if n % w < w - 1 ∧ rd c (n + 1) ≠ 2 then [n + 1] else []) ++ if n + w < (c.length : Int) ∧ rd c (n + w) ≠ 2 then [n + w] else []) := by
    intro k o b ho
    simp only [spec_l4Near.j2]
    rw [wrapId (n := n - 1) (by omega) (by omega), if_pos (show o.length < 17592186044416 by omega)]
    cases b with
    | true =>
      rw [if_pos rfl, if_pos rfl, j3 k _ (by simp; omega)]
    | false =>
      rw [if_neg (by simp), if_neg (by simp), j3 k _ (by omega), List.append_nil]
  have j1 : ∀ (k : Nat) (o : List Int), o.length ≤ 9 → spec_l4Near.j1 (k + 4) n o w h c = some (((o ++ if 0 < n % w ∧ rd c (n - 1) ≠ 2 then [n - 1] else []) ++ if n % w < w - 1 ∧ rd c (n + 1) ≠ 2 then [n + 1] else []) ++ if n + w < (c.length : Int) ∧ rd c (n + w) ≠ 2 then [n + w] else []) := by
    intro k o ho
    simp only [spec_l4Near.j1]
    rw [if_neg (show ¬ w = 0 by omega), me, wrapId (n := n - 1) (by omega) (by omega)]
    by_cases q : 0 < n % w
    · have hp : 0 < n := by
        rcases Int.lt_or_le 0 n with x | x
        · exact x
        · obtain rfl : n = 0 := by omega
          simp at q
      rw [if_pos (show n % w > 0 from q), if_pos (by omega), if_pos (by omega), j2 k o _ ho, cond _ _ _ q]
    · rw [if_neg (show ¬ n % w > 0 from q), j2 k o _ ho, ncond _ (n - 1) _ q]
  have j0 : ∀ (k : Nat) (o : List Int) (b : Bool), o.length ≤ 8 → spec_l4Near.j0 (k + 5) n o b w h c = some ((((o ++ if b = true then [n - w] else []) ++ if 0 < n % w ∧ rd c (n - 1) ≠ 2 then [n - 1] else []) ++ if n % w < w - 1 ∧ rd c (n + 1) ≠ 2 then [n + 1] else []) ++ if n + w < (c.length : Int) ∧ rd c (n + w) ≠ 2 then [n + w] else []) := by
    intro k o b ho
    simp only [spec_l4Near.j0]
    rw [wrapId (n := n - w) (by omega) (by omega), if_pos (show o.length < 17592186044416 by omega)]
    cases b with
    | true =>
      rw [if_pos rfl, if_pos rfl, j1 k _ (by simp; omega)]
    | false =>
      rw [if_neg (by simp), if_neg (by simp), j1 k _ (by omega), List.append_nil]
  refine evAfter 5 (fun k => ?_)
  simp only [spec_l4Near.f, Option.bind_some]
  rw [wrapId (n := n - w) (by omega) (by omega)]
  by_cases q : w ≤ n
  · rw [if_pos (show n ≥ w from q), if_pos (by omega), if_pos (by omega), j0 k [] _ (by simp), cond _ _ _ q, List.nil_append]
    rfl
  · rw [if_neg (show ¬ n ≥ w from q), j0 k [] _ (by simp), ncond _ (n - w) _ q, List.nil_append]
    rfl

theorem spec_bfs_ev {w h : Int} {c : List Int} (hl : landOk w h c) : ∀ (m : Nat) (d q pre : List Int), m ≤ 900 → pre.length + m ≤ 900 → SI c.length m d q → Ev (fun k => spec_l5From.l1 k d (pre ++ q) (pre.length : Int) w h c) (bfs (nearS w c) m d q) := by
  have hlen := hl.len
  have stop : ∀ d pre : List Int, Ev (fun k => spec_l5From.l1 k d (pre ++ []) (pre.length : Int) w h c) d := by
    intro d pre
    refine Ev.step (f := fun _ => some d) (fun k => ?_) (Ev.now _)
    simp only [spec_l5From.l1, List.append_nil]
    rw [if_neg (by omega)]
  intro m
  induction m with
  | zero =>
    intro d q pre hm hp hs
    have : q = [] := List.length_eq_zero_iff.1 (by have := hs.mea; omega)
    subst this
    exact stop d pre
  | succ m ih =>
    intro d q pre hm hp hs
    match q, hs with
    | [], _ => exact stop d pre
    | v :: t, hs =>
      have hv := (hs.qok v List.mem_cons_self).1
      have hd := (hs.qok v List.mem_cons_self).2
      have hb : rd d v + 1 ≤ 1000 - (m : Int) := by
        have := hs.top v hv.1 hv.2
        omega
      have hcell : cellOk w h c v := ⟨hl, hv⟩
      have rdq : ∀ t' : List Int, rd (pre ++ v :: t') (pre.length : Int) = v := by
        intro t'
        rw [rdAt, List.getD_eq_getElem?_getD, List.getElem?_append_right (Nat.le_refl _), Nat.sub_self]
        rfl
      have st : ∀ k, spec_l5From.l1 (k + 1) d (pre ++ v :: t) (pre.length : Int) w h c = (spec_l4Near.f k w h c v).bind fun nb => spec_l5From.l2 k d (pre ++ v :: t) (pre.length : Int) nb 0 w h c := by
        intro k
        simp only [spec_l5From.l1]
        rw [if_pos (show (pre.length : Int) < ((pre ++ v :: t).length : Int) by simp only [List.length_append, List.length_cons]; omega), if_pos (by omega), rdq]
      refine Ev.step st (Ev.bind (spec_l4Near_ev hcell) ?_)
      simp only [bfs]
      have hn := adj_in hl v hv.1 hv.2
      have h4 := nearS_len w c v
      generalize nearS w c v = nb at hn h4 ⊢
      exact evScan nb (fun k (s : List Int × List Int) j => spec_l5From.l2 k s.1 (pre ++ v :: s.2) (pre.length : Int) nb j w h c) (fun s _ r => bfs (nearS w c) m (relax v r s).1 (relax v r s).2) (fun s _ => RI c.length m v (rd d v) s) (fun s hr => by
          have := ih s.1 s.2 (pre ++ [v]) (by omega) (by simp only [List.length_append, List.length_cons, List.length_nil]; omega) hr.si
          rw [List.append_assoc, List.singleton_append] at this
          refine Ev.step (fun k => ?_) this
          simp only [spec_l5From.l2]
          rw [if_neg (by omega), wrapSucc (by omega)]
          simp) (fun s j r hj _ hr ih2 => by
          have hu := hn nb[j] (List.getElem_mem hj)
          have hlen1 := hr.si.len
          have hq : (pre ++ v :: s.2).length < 17592186044416 := by
            have := hr.si.mea
            simp only [List.length_append, List.length_cons]
            omega
          have st : ∀ k, spec_l5From.l2 (k + 1) s.1 (pre ++ v :: s.2) (pre.length : Int) nb (j : Int) w h c = if rd s.1 nb[j] < 0 then spec_l5From.l2 k (s.1.set nb[j].toNat (rd s.1 v + 1)) (pre ++ v :: (s.2 ++ [nb[j]])) (pre.length : Int) nb ((j + 1 : Nat) : Int) w h c else spec_l5From.l2 k s.1 (pre ++ v :: s.2) (pre.length : Int) nb ((j + 1 : Nat) : Int) w h c := by
            intro k
            simp only [spec_l5From.l2]
            rw [if_pos (by omega), if_pos (by omega), rdIn hj, if_pos hu.1, if_pos (show nb[j] < (s.1.length : Int) by omega), rdq, if_pos (show (0 : Int) ≤ (pre.length : Int) by omega), if_pos (show (pre.length : Int) < ((pre ++ v :: s.2).length : Int) by simp only [List.length_append, List.length_cons]; omega), if_pos hv.1, if_pos (show v < (s.1.length : Int) by omega), if_pos hq, wrapSucc (by omega), wrapId (n := rd s.1 v + 1) (by rw [hr.rdv]; omega) (by rw [hr.rdv]; omega), List.append_assoc, List.cons_append]
          refine Ev.step st ?_
          simp only [relax]
          by_cases g : rd s.1 nb[j] < 0
          · rw [if_pos g]
            refine evPos g ?_
            rw [hr.rdv]
            exact ih2 (s.1.set nb[j].toNat (rd d v + 1), s.2 ++ [nb[j]]) (hr.push hv hd hb hu g)
          · rw [if_neg g]
            exact evNeg g (ih2 s hr))
        (d, t) (RI.start hs)
theorem spec_l5From_ev {w h : Int} {c : List Int} {a : Int} (ho : openOk w h c a) : Ev (fun k => spec_l5From.f k w h c a) (distS w h c [a]) := by
  have hl := ho.1.1
  have hlen := hl.len
  have two : Ev (fun k => spec_l5From.l1 k ((blank c).1.set a.toNat 0) [a] 0 w h c) (distS w h c [a]) := by
    have si := seeds_SI hl [a]
    unfold distS
    rw [seeds_one ho] at si ⊢
    exact spec_bfs_ev hl 200 _ _ [] (by omega) (by simp) si
  unfold spec_l5From.f
  have key := evScan c (fun k (s : List Int) i => spec_l5From.l0 k a s i w h c) (fun _ _ _ => distS w h c [a]) (fun s i => s = List.replicate i (-1)) (fun s hs => by
      subst hs
      refine Ev.step (fun k => ?_) two
      simp only [spec_l5From.l0]
      rw [if_neg (by omega), if_pos ho.1.2.1, if_pos (show a < ((List.replicate c.length (-1 : Int)).length : Int) by simp only [List.length_replicate]; exact ho.1.2.2)]
      rfl) (fun s i t hi _ hs ih => by
      subst hs
      refine Ev.step (fun k => ?_) (ih (List.replicate (i + 1) (-1)) rfl)
      simp only [spec_l5From.l0]
      rw [if_pos (by omega), if_pos (show (List.replicate i (-1 : Int)).length < 17592186044416 by simp; omega), wrapSucc (by omega), List.replicate_succ'])
    [] rfl
  exact key

/-- The places, from i on, of numbers from 0 to a most. -/
def withinS (most : Int) : Nat → List Int → List Int
  | _, [] => []
  | i, x :: t => if 0 ≤ x ∧ x ≤ most then (i : Int) :: withinS most (i + 1) t else withinS most (i + 1) t
theorem withinS_len (most : Int) : ∀ (t : List Int) (i : Nat), (withinS most i t).length ≤ t.length
  | [], _ => Nat.le_refl _
  | x :: t, i => by
    have := withinS_len most t (i + 1)
    simp only [withinS, List.length_cons]
    split
    · simp only [List.length_cons]
      omega
    · omega
def reachS (w h : Int) (c : List Int) (a days : Int) : List Int := if openOk w h c a then withinS days 0 (distS w h c [a]) else []
theorem reachS_len (w h : Int) (c : List Int) (a days : Int) (hc : c.length ≤ 1048576) : (reachS w h c a days).length ≤ 1048576 := by
  unfold reachS
  split
  · rename_i ho
    have := withinS_len days (distS w h c [a]) 0
    rw [dist_len ho.1.1] at this
    omega
  · simp

theorem spec_Reach_ev (w h : Int) (c : List Int) (a days : Int) : Ev (fun k => spec_Reach.f k w h c a days) (reachS w h c a days) := by
  unfold spec_Reach.f reachS
  simp only [Option.bind_some]
  refine Ev.bind (spec_IsOpen_ev w h c a) ?_
  by_cases o : openOk w h c a
  · rw [if_pos o]
    refine evPos (decide_eq_true o) (Ev.bind (spec_l5From_ev o) ?_)
    have hl : (distS w h c [a]).length ≤ 100000000 := by
      have := o.1.1.len
      rw [dist_len o.1.1]
      omega
    generalize distS w h c [a] = l at hl ⊢
    have key := evScan l (fun k (acc : List Int) i => spec_Reach.l0 k days acc l i) (fun acc i t => acc ++ withinS days i t) (fun acc i => acc.length ≤ i) (fun acc _ => by
        simp only [withinS, List.append_nil]
        refine Ev.step (f := fun _ => some acc) (fun k => ?_) (Ev.now _)
        simp only [spec_Reach.l0]
        rw [if_neg (by omega)]) (fun acc i t hi _ ha ih => by
        have st : ∀ k, spec_Reach.l0 (k + 1) days acc l (i : Int) = if l[i] ≥ 0 then (if l[i] ≤ days then spec_Reach.l0 k days (acc ++ [(i : Int)]) l ((i + 1 : Nat) : Int) else spec_Reach.l0 k days acc l ((i + 1 : Nat) : Int)) else spec_Reach.l0 k days acc l ((i + 1 : Nat) : Int) := by
          intro k
          simp only [spec_Reach.l0]
          rw [if_pos (by omega), if_pos (by omega), rdIn hi, wrapSucc (by omega), if_pos (show acc.length < 17592186044416 by omega)]
        refine Ev.step st ?_
        simp only [withinS]
        by_cases q0 : l[i] ≥ 0
        · refine evPos q0 ?_
          by_cases q1 : l[i] ≤ days
          · rw [if_pos ⟨q0, q1⟩]
            have := ih (acc ++ [(i : Int)]) (by simp; omega)
            rw [List.append_assoc, List.singleton_append] at this
            exact evPos q1 this
          · rw [if_neg (fun z => q1 z.2)]
            exact evNeg q1 (ih acc (by omega))
        · rw [if_neg (fun z => q0 z.1)]
          exact evNeg q0 (ih acc (by omega)))
      [] (by simp)
    simpa using key
  · rw [if_neg o]
    exact evNeg (by rw [decide_eq_true_eq]; exact o) (Ev.now _)

theorem spec_Apart_ev (w h : Int) (c : List Int) (a b : Int) : Ev (fun k => spec_Apart.f k w h c a b) (apart w h c a b) := by
  have no : ¬ (cellOk w h c a ∧ cellOk w h c b) → Ev (fun k => spec_Apart.j0 k a b true w h c) (apart w h c a b) := by
    intro q
    unfold apart
    rw [if_neg q]
    refine Ev.step (f := fun _ => some (-1)) (fun k => ?_) (Ev.now _)
    simp only [spec_Apart.j0, if_true]
  have mxs : ∀ x y : Int, spec_Max.f x y = some (if y > x then y else x) := by
    intro x y
    unfold spec_Max.f
    split <;> rfl
  unfold spec_Apart.f
  refine Ev.bind (spec_IsCell_ev w h c a) ?_
  by_cases qa : cellOk w h c a
  · refine evPos (decide_eq_true qa) (Ev.bind (spec_IsCell_ev w h c b) ?_)
    by_cases qb : cellOk w h c b
    · rw [decide_eq_true qb]
      unfold apart
      rw [if_pos ⟨qa, qb⟩]
      have hw := qa.1.1.1
      have hl := qa.1.len
      have ma := modB hw qa.2.1 (by have := qa.2.2; omega)
      have mb := modB hw qb.2.1 (by have := qb.2.2; omega)
      refine Ev.step (f := fun _ => some (absI (a % w - b % w) + absI (a / w - b / w))) (fun k => ?_) (Ev.now _)
      simp only [spec_Apart.j0, Bool.not_true, Bool.false_eq_true, if_false, mxs, Option.bind_some, ma.1, mb.1, ma.2.1, mb.2.1]
      rw [if_neg (show ¬ w = 0 by omega), wrapId (n := a / w) (by omega) (by omega), wrapId (n := b / w) (by omega) (by omega), wrapId (n := a % w - b % w) (by omega) (by omega), wrapId (n := a / w - b / w) (by omega) (by omega), wrapId (n := b % w - a % w) (by omega) (by omega), wrapId (n := b / w - a / w) (by omega) (by omega)]
      have e0 : (if b % w - a % w > a % w - b % w then b % w - a % w else a % w - b % w) = absI (a % w - b % w) := by unfold absI; repeat' split; all_goals omega
      have e1 : (if b / w - a / w > a / w - b / w then b / w - a / w else a / w - b / w) = absI (a / w - b / w) := by unfold absI; repeat' split; all_goals omega
      rw [e0, e1, wrapId]
      · unfold absI
        repeat' split
        all_goals omega
      · unfold absI
        repeat' split
        all_goals omega
    · rw [decide_eq_false qb]
      exact no (fun x => qb x.2)
  · exact evNeg (by rw [decide_eq_true_eq]; exact qa) (no (fun x => qa x.1))

theorem dist_self {w h : Int} {c l : List Int} {k : Int} (ho : openOk w h c k) (hk : k ∈ l) : rd (distS w h c l) k = 0 := by
  have t := (dist_tells ho.1.1 l 0 k ho.1.2.1 ho.1.2.2).2 ⟨hk, ho⟩
  omega
theorem DrawPlacesAfter_ev {l : List Int} (hl : l.length ≤ 1048576) : ∃ w h c marks fars, Ev (fun k => spec_DrawPlacesAfter.f k l) (w, h, c, [0], 3, marks, fars) ∧ landOk w h c ∧ marks.length ≤ 4 ∧ fars.length ≤ 4 := by
  unfold spec_DrawPlacesAfter.f
  obtain ⟨s, e0⟩ := l1New_ev hl
  obtain ⟨w, h, c, i1, s1, e1, c1, l1, z1, n1⟩ := l4Draw_ev s (curStart hl)
  have hlen := l1.len
  have o0 : openOk w h c 0 := ⟨⟨l1, by omega, by omega⟩, by rw [z1]; omega⟩
  have rl : 1 ≤ (reachS w h c 0 3).length ∧ (reachS w h c 0 3).length ≤ 64 := by
    unfold reachS
    rw [if_pos o0]
    have dl := dist_len l1 [0]
    have ds := dist_self o0 (l := [0]) (by simp)
    have wl := withinS_len 3 (distS w h c [0]) 0
    match distS w h c [0], dl, ds, wl with
    | [], dl, _, _ => simp at dl; omega
    | x :: t, dl, ds, wl =>
      have hx : x = 0 := ds
      refine ⟨?_, by omega⟩
      simp only [withinS]
      rw [if_pos (by omega)]
      simp
  obtain ⟨x, i2, s2, e2, b2, c2⟩ := l1Below_some s1 (n := ((reachS w h c 0 3).length : Int)) (by omega) c1
  obtain ⟨y, i3, s3, e3, b3, c3⟩ := l1Below_some s2 (n := 3) (by omega) c2
  have lp : ∀ (d : Nat) (m f : List Int) (here i s : Int), curOk l i → m.length + d ≤ 3 → f.length + d ≤ 3 → ∃ marks fars, Ev (fun k => spec_DrawPlacesAfter.l0 k here m f (d : Int) l i s w h c) (w, h, c, [0], 3, marks, fars) ∧ marks.length ≤ 4 ∧ fars.length ≤ 4 := by
    intro d
    induction d with
    | zero =>
      intro m f here i s hc hm hf
      obtain ⟨q, i4, s4, e4, c4⟩ := l1Once_some s (n := 8) (by omega) hc
      cases q with
      | true =>
        refine ⟨m ++ [0], f, Ev.step (f := fun _ => some (w, h, c, [0], 3, m ++ [0], f)) (fun k => ?_) (Ev.now _), by simp; omega, by omega⟩
        simp only [spec_DrawPlacesAfter.l0, e4, Option.bind_some, if_true]
        rw [if_neg (by omega), if_pos (by omega)]
      | false =>
        refine ⟨m, f, Ev.step (f := fun _ => some (w, h, c, [0], 3, m, f)) (fun k => ?_) (Ev.now _), by omega, by omega⟩
        simp only [spec_DrawPlacesAfter.l0, e4, Option.bind_some, Bool.false_eq_true, if_false]
        rw [if_neg (by omega)]
    | succ d ih =>
      intro m f here i s hc hm hf
      obtain ⟨u, i4, s4, e4, b4, c4⟩ := l1Below_some s (n := (c.length : Int)) (by omega) hc
      obtain ⟨marks, fars, e5, r⟩ := ih (m ++ [u]) (f ++ [apart w h c u here]) here i4 s4 c4 (by simp; omega) (by simp; omega)
      refine ⟨marks, fars, Ev.step (f := fun k => (spec_Apart.f k w h c u here).bind fun t => spec_DrawPlacesAfter.l0 k here (m ++ [u]) (f ++ [t]) (d : Int) l i4 s4 w h c) (fun k => ?_) (Ev.bind (spec_Apart_ev w h c u here) e5), r⟩
      simp only [spec_DrawPlacesAfter.l0, e4, Option.bind_some]
      rw [if_pos (by omega), if_pos (by omega), wrapId (n := ((d + 1 : Nat) : Int) - 1) (by omega) (by omega), show ((d + 1 : Nat) : Int) - 1 = (d : Int) by omega]
      congr 1
      funext t
      rw [if_pos (by omega)]
  obtain ⟨marks, fars, e4, r⟩ := lp y.toNat [] [] (rd (reachS w h c 0 3) x) i3 s3 c3 (by simp; omega) (by simp; omega)
  rw [show ((y.toNat : Nat) : Int) = y by omega] at e4
  refine ⟨w, h, c, marks, fars, Ev.bind e0 (Ev.bind e1 (Ev.bind (spec_Reach_ev w h c 0 3) ?_)), l1, r⟩
  simp only [e2, Option.bind_some]
  refine evPos b2.1 (evPos b2.2 ?_)
  simp only [e3, Option.bind_some]
  exact e4
theorem DrawCanBe_ev {l : List Int} (hl : l.length ≤ 1048576) : ∃ w h c a b n, Ev (fun k => spec_DrawCanBe.f k l) (w, h, c, [a, b], n) ∧ c.length ≤ 30 ∧ -1 ≤ n ∧ n ≤ 3 := by
  unfold spec_DrawCanBe.f
  obtain ⟨s, e0⟩ := l1New_ev hl
  obtain ⟨w, h, c, i1, s1, e1, c1, n1⟩ := l4Any_ev s (curStart hl)
  obtain ⟨a, i2, s2, e2, b2, c2⟩ := l1Below_some s1 (n := 20) (by omega) c1
  obtain ⟨b, i3, s3, e3, b3, c3⟩ := l1Below_some s2 (n := 20) (by omega) c2
  obtain ⟨n, i4, s4, e4, b4, c4⟩ := l1Below_some s3 (n := 5) (by omega) c3
  refine ⟨w, h, c, a, b, n - 1, Ev.bind e0 (Ev.bind e1 ?_), n1, by omega, by omega⟩
  simp only [e2, e3, e4, Option.bind_some]
  rw [wrapId (n := n - 1) (by omega) (by omega)]
  exact Ev.now _

/-- The least number of steps from one cell to another, -1 where there is no way. -/
def daysS (w h : Int) (c : List Int) (a b : Int) : Int := if openOk w h c a ∧ openOk w h c b then rd (distS w h c [a]) b else -1

theorem src_open {w h : Int} {c l : List Int} : ∀ (n : Nat) (k : Int), landOk w h c → Wk (nearS w c) (srcS w h c l) n k → openOk w h c k
  | 0, k, _, hk => hk.2
  | n + 1, k, hl, hk => by
    rcases hk with hk | ⟨j, hj, hk⟩
    · exact src_open n k hl hk
    · exact ((mem_nearS hl (src_open n j hl hj).1).1 hk).1
theorem src_one {w h : Int} {c : List Int} {a : Int} (ho : openOk w h c a) : srcS w h c [a] = fun x => x = a := by
  funext x
  unfold srcS
  rw [List.mem_singleton, eq_iff_iff]
  exact ⟨fun z => z.1, fun z => ⟨z, by rw [z]; exact ho⟩⟩
/-- From several cells: what is near enough is near enough to one of them. -/
theorem can_same {w h : Int} {c : List Int} (hl : landOk w h c) (l : List Int) {steps k : Int} (hs : 0 ≤ steps) (h0 : 0 ≤ k) (h1 : k < (c.length : Int)) : (0 ≤ rd (distS w h c l) k ∧ rd (distS w h c l) k ≤ steps) ↔ (openOk w h c k ∧ ∃ a ∈ l, 0 ≤ daysS w h c a k ∧ daysS w h c a k ≤ steps) := by
  have e : (steps.toNat : Int) = steps := by omega
  have t1 := dist_tells hl l steps.toNat k h0 h1
  rw [e] at t1
  rw [t1]
  constructor
  · intro hw
    have ho := src_open _ k hl hw
    obtain ⟨a, ha, hw'⟩ := Wk.one.1 hw
    have t2 := dist_tells hl [a] steps.toNat k h0 h1
    rw [e, src_one ha.2] at t2
    refine ⟨ho, a, ha.1, ?_⟩
    unfold daysS
    rw [if_pos ⟨ha.2, ho⟩]
    exact t2.2 hw'
  · rintro ⟨ho, a, ha, hd⟩
    unfold daysS at hd
    by_cases q : openOk w h c a ∧ openOk w h c k
    · rw [if_pos q] at hd
      have t2 := dist_tells hl [a] steps.toNat k h0 h1
      rw [e, src_one q.1] at t2
      exact Wk.one.2 ⟨a, ⟨ha, q.1⟩, t2.1 hd⟩
    · rw [if_neg q] at hd
      omega
/-- The places, from i on, that a test takes. -/
def pickFrom (P : Int → Bool) : Nat → List Int → List Int
  | _, [] => []
  | i, _ :: t => if P (i : Int) = true then (i : Int) :: pickFrom P (i + 1) t else pickFrom P (i + 1) t
theorem pick_within (P : Int → Bool) (most : Int) : ∀ (t t' : List Int) (i : Nat), t.length = t'.length → (∀ j, j < t.length → ((0 ≤ t.getD j 0 ∧ t.getD j 0 ≤ most) ↔ P ((i + j : Nat) : Int) = true)) → withinS most i t = pickFrom P i t'
  | [], [], _, _, _ => rfl
  | [], _ :: _, _, h, _ => by simp at h
  | _ :: _, [], _, h, _ => by simp at h
  | x :: t, y :: t', i, h, hp => by
    have ih := pick_within P most t t' (i + 1) (by simpa using h) (fun j hj => by
      have := hp (j + 1) (by simp only [List.length_cons]; omega)
      rw [show i + (j + 1) = i + 1 + j by omega] at this
      simpa using this)
    have h0 := hp 0 (by simp)
    simp only [List.getD_cons_zero, Nat.add_zero] at h0
    simp only [withinS, pickFrom, ih]
    by_cases q : 0 ≤ x ∧ x ≤ most
    · rw [if_pos q, if_pos (h0.1 q)]
    · rw [if_neg q, if_neg (fun z => q (h0.2 z))]
def canP (w h : Int) (c l : List Int) (steps k : Int) : Bool := decide (openOk w h c k) && l.any (fun a => decide (0 ≤ daysS w h c a k ∧ daysS w h c a k ≤ steps))
/-- Where one can be. -/
def canS (w h : Int) (c l : List Int) (steps : Int) : List Int := if 0 ≤ steps ∧ landOk w h c then withinS steps 0 (distS w h c l) else []
theorem canS_pick {w h : Int} {c l : List Int} {steps : Int} (hs : 0 ≤ steps) (hl : landOk w h c) : canS w h c l steps = pickFrom (canP w h c l steps) 0 c := by
  unfold canS
  rw [if_pos ⟨hs, hl⟩]
  refine pick_within _ steps _ _ 0 (dist_len hl l) (fun j hj => ?_)
  rw [dist_len hl l] at hj
  have := can_same hl l hs (k := (j : Int)) (by omega) (by omega)
  rw [rdAt] at this
  rw [this, Nat.zero_add]
  unfold canP
  simp only [Bool.and_eq_true, decide_eq_true_eq, List.any_eq_true]
theorem canS_len (w h : Int) (c l : List Int) (steps : Int) (hc : c.length ≤ 1048576) : (canS w h c l steps).length ≤ 1048576 := by
  unfold canS
  split
  · rename_i q
    have := withinS_len steps (distS w h c l) 0
    rw [dist_len q.2] at this
    omega
  · simp

/-- The cells of n, from the one at i on, that are open and so far from a mark. -/
def seenFrom (w h : Int) (c : List Int) (mark far : Int) : Nat → List Int → List Int
  | _, [] => []
  | i, _ :: t => if cellOk w h c mark ∧ openOk w h c (i : Int) ∧ apart w h c mark (i : Int) = far then (i : Int) :: seenFrom w h c mark far (i + 1) t else seenFrom w h c mark far (i + 1) t
def seenS (w h : Int) (c : List Int) (mark far : Int) : List Int := seenFrom w h c mark far 0 c
theorem seenFrom_len (w h : Int) (c : List Int) (mark far : Int) : ∀ (t : List Int) (i : Nat), (seenFrom w h c mark far i t).length ≤ t.length
  | [], _ => Nat.le_refl _
  | _ :: t, i => by
    have := seenFrom_len w h c mark far t (i + 1)
    simp only [seenFrom, List.length_cons]
    split
    · simp only [List.length_cons]
      omega
    · omega

def crossS (a b : List Int) : List Int := a.filter (fun n => decide (n ∈ b))

def crossAll (w h : Int) (c : List Int) : List Int → List (Int × Int) → List Int
  | acc, [] => acc
  | acc, p :: t => crossAll w h c (crossS acc (seenS w h c p.1 p.2)) t
theorem crossAll_len (w h : Int) (c : List Int) : ∀ (t : List (Int × Int)) (acc : List Int), (crossAll w h c acc t).length ≤ acc.length
  | [], _ => Nat.le_refl _
  | p :: t, acc => Nat.le_trans (crossAll_len w h c t _) (List.length_filter_le _ _)
/-- Where one can be by landmarks. -/
def afterS (w h : Int) (c l : List Int) (steps : Int) (marks fars : List Int) : List Int := if marks.length = fars.length then crossAll w h c (canS w h c l steps) (marks.zip fars) else []
theorem afterS_len (w h : Int) (c l : List Int) (steps : Int) (marks fars : List Int) (hc : c.length ≤ 1048576) : (afterS w h c l steps marks fars).length ≤ 1048576 := by
  unfold afterS
  split
  · exact Nat.le_trans (crossAll_len _ _ _ _ _) (canS_len w h c l steps hc)
  · simp
theorem zip_drop {marks fars : List Int} {i : Nat} {t : List Int} (hi : i < marks.length) (ht : t = marks.drop (i + 1)) (hl : marks.length = fars.length) : (marks[i] :: t).zip (fars.drop i) = (marks[i], fars[i]) :: t.zip (fars.drop (i + 1)) := by
  rw [List.drop_eq_getElem_cons (show i < fars.length by omega)]
  rfl

theorem inRange_eq (a b c : Int) : impl_InRange.f a b c = some (decide (b ≤ a ∧ a ≤ c)) := by
  unfold impl_InRange.f
  by_cases h : b ≤ a
  · rw [if_pos h]
    simp [h]
  · rw [if_neg h]
    simp [h]

theorem allIn_ev {l : List Int} (lo hi : Int) (hl : l.length ≤ 100000000) : Ev (fun k => impl_allIn.f k l lo hi) (inB lo hi l) := by
  have key := evScan l (fun k (_ : Unit) i => impl_allIn.l0 k lo hi l (l.length : Int) i) (fun _ _ t => inB lo hi t) (fun _ _ => True) (fun _ _ => by
      rw [show inB lo hi [] = true from rfl]
      refine Ev.step (f := fun _ => some true) (fun k => ?_) (Ev.now _)
      simp only [impl_allIn.l0]
      rw [if_neg (by omega)]) (fun _ i t h _ _ ih => by
      have st : ∀ k, impl_allIn.l0 (k + 1) lo hi l (l.length : Int) (i : Int) = if decide (lo ≤ l[i] ∧ l[i] ≤ hi) = true then impl_allIn.l0 k lo hi l (l.length : Int) ((i + 1 : Nat) : Int) else some false := by
        intro k
        simp only [impl_allIn.l0, inRange_eq, Option.bind_some]
        rw [if_pos (by omega), if_pos (by omega), if_pos (by omega), rdIn h, wrapSucc (by omega)]
      refine Ev.step st ?_
      by_cases d : lo ≤ l[i] ∧ l[i] ≤ hi
      · refine evPos (decide_eq_true d) ?_
        rw [inB_yes d]
        exact ih () trivial
      · refine evNeg (by rw [decide_eq_true_eq]; exact d) ?_
        rw [inB_no d]
        exact Ev.now _)
    () trivial
  unfold impl_allIn.f
  exact key
theorem impl_IsLand_ev (w h : Int) (c : List Int) : Ev (fun k => impl_IsLand.f k w h c) (decide (landOk w h c)) := by
  unfold impl_IsLand.f
  simp only [inRange_eq, Option.bind_some]
  by_cases c0 : 1 ≤ w ∧ w ≤ 8
  · refine evPos (decide_eq_true c0) ?_
    by_cases c1 : 1 ≤ h ∧ h ≤ 8
    · have sb := sideB c0 c1
      refine evPos (decide_eq_true c1) ?_
      rw [wrapId (n := w * h) (by omega) (by omega)]
      by_cases c2 : (c.length : Int) = w * h
      · refine evPos c2 (Ev.bind (allIn_ev 0 2 (by omega)) ?_)
        rw [show decide (landOk w h c) = inB 0 2 c by rw [Bool.eq_iff_iff, decide_eq_true_eq, inB_iff]; exact ⟨fun x => x.2.2, fun x => ⟨⟨c0, c1⟩, c2, x⟩⟩]
        exact Ev.now _
      · rw [decide_eq_false (fun x : landOk w h c => c2 x.2.1)]
        exact evNeg c2 (Ev.now _)
    · rw [decide_eq_false (fun x : landOk w h c => c1 x.1.2)]
      exact evNeg (by rw [decide_eq_true_eq]; exact c1) (Ev.now _)
  · rw [decide_eq_false (fun x : landOk w h c => c0 x.1.1)]
    exact evNeg (by rw [decide_eq_true_eq]; exact c0) (Ev.now _)
theorem impl_IsCell_ev (w h : Int) (c : List Int) (n : Int) : Ev (fun k => impl_IsCell.f k w h c n) (decide (cellOk w h c n)) := by
  unfold impl_IsCell.f
  refine Ev.bind (impl_IsLand_ev w h c) ?_
  by_cases q : landOk w h c
  · refine evPos (decide_eq_true q) ?_
    have := q.len
    simp only [inRange_eq, Option.bind_some]
    rw [wrapId (n := (c.length : Int) - 1) (by omega) (by omega), show decide (cellOk w h c n) = decide (0 ≤ n ∧ n ≤ (c.length : Int) - 1) by rw [decide_eq_decide]; exact ⟨fun x => ⟨x.2.1, by have := x.2.2; omega⟩, fun x => ⟨q, x.1, by omega⟩⟩]
    exact Ev.now _
  · rw [decide_eq_false (fun x : cellOk w h c n => q x.1)]
    exact evNeg (by rw [decide_eq_true_eq]; exact q) (Ev.now _)

theorem impl_IsOpen_ev (w h : Int) (c : List Int) (n : Int) : Ev (fun k => impl_IsOpen.f k w h c n) (decide (openOk w h c n)) := by
  unfold impl_IsOpen.f
  refine Ev.bind (impl_IsCell_ev w h c n) ?_
  by_cases q : cellOk w h c n
  · refine evPos (decide_eq_true q) (evPos q.2.1 (evPos q.2.2 ?_))
    rw [show decide (openOk w h c n) = (rd c n != 2) by rw [Bool.eq_iff_iff, decide_eq_true_eq, bne_iff_ne]; exact ⟨fun x => x.2, fun x => ⟨q, x⟩⟩]
    exact Ev.now _
  · rw [decide_eq_false (fun x : openOk w h c n => q x.1)]
    exact evNeg (by rw [decide_eq_true_eq]; exact q) (Ev.now _)

theorem impl_Apart_ev (w h : Int) (c : List Int) (a b : Int) : Ev (fun k => impl_Apart.f k w h c a b) (apart w h c a b) := by
  have no : ¬ (cellOk w h c a ∧ cellOk w h c b) → Ev (fun k => impl_Apart.j0 k a b true w h c) (apart w h c a b) := by
    intro q
    unfold apart
    rw [if_neg q]
    refine Ev.step (f := fun _ => some (-1)) (fun k => ?_) (Ev.now _)
    simp only [impl_Apart.j0, if_true]
  unfold impl_Apart.f
  refine Ev.bind (impl_IsCell_ev w h c a) ?_
  by_cases qa : cellOk w h c a
  · refine evPos (decide_eq_true qa) (Ev.bind (impl_IsCell_ev w h c b) ?_)
    by_cases qb : cellOk w h c b
    · rw [decide_eq_true qb]
      unfold apart
      rw [if_pos ⟨qa, qb⟩]
      have hw := qa.1.1.1
      have hl := qa.1.len
      have ma := modB hw qa.2.1 (by have := qa.2.2; omega)
      have mb := modB hw qb.2.1 (by have := qb.2.2; omega)
      refine Ev.step (f := fun _ => some (absI (a % w - b % w) + absI (a / w - b / w))) (fun k => ?_) (Ev.now _)
      simp only [impl_Apart.j0, Bool.not_true, Bool.false_eq_true, if_false, impl_size.f, Option.bind_some, ma.1, mb.1, ma.2.1, mb.2.1]
      rw [if_neg (by omega), wrapId (n := a / w) (by omega) (by omega), wrapId (n := b / w) (by omega) (by omega), wrapId (n := a % w - b % w) (by omega) (by omega), wrapId (n := a / w - b / w) (by omega) (by omega), wrapId (n := -(a % w - b % w)) (by omega) (by omega), wrapId (n := -(a / w - b / w)) (by omega) (by omega)]
      have e0 : mx (a % w - b % w) (-(a % w - b % w)) = absI (a % w - b % w) := by unfold mx absI; repeat' split; all_goals omega
      have e1 : mx (a / w - b / w) (-(a / w - b / w)) = absI (a / w - b / w) := by unfold mx absI; repeat' split; all_goals omega
      rw [e0, e1, wrapId]
      · unfold absI
        repeat' split
        all_goals omega
      · unfold absI
        repeat' split
        all_goals omega
    · rw [decide_eq_false qb]
      exact no (fun x => qb x.2)
  · exact evNeg (by rw [decide_eq_true_eq]; exact qa) (no (fun x => qa x.1))

theorem compact_asc {l : List Int} (hl : l.Pairwise (· < ·)) : Go.Lib.compact l = l := by
  refine Go.Lib.compact_all l (fun j hj => ?_)
  rcases Nat.eq_zero_or_pos j with rfl | h0
  · simp [Go.Lib.keeps]
  · have h1 : j - 1 < l.length := by omega
    have := List.pairwise_iff_getElem.1 hl (j - 1) j h1 hj (by omega)
    simp only [Go.Lib.keeps, decide_eq_true_eq]
    right
    simp only [List.getElem!_toArray]
    rw [getElem!_pos l j hj, getElem!_pos l (j - 1) h1]
    omega
theorem compact2 (a : Int) : Go.Lib.compact [a, a] = [a] := by
  have k0 : Go.Lib.keeps #[a, a] 0 = true := by simp [Go.Lib.keeps]
  have k1 : Go.Lib.keeps #[a, a] 1 = false := by simp [Go.Lib.keeps]
  show Go.Lib.compactUpTo #[a, a] (0 + 1 + 1) = _
  rw [Go.Lib.compactUpTo_succ, Go.Lib.compactUpTo_succ, k0, k1]
  simp [Go.Lib.compactUpTo]
theorem compact4 {a b : Int} (h : b ≠ a) : Go.Lib.compact [a, a, b, b] = [a, b] := by
  have k0 : Go.Lib.keeps #[a, a, b, b] 0 = true := by simp [Go.Lib.keeps]
  have k1 : Go.Lib.keeps #[a, a, b, b] 1 = false := by simp [Go.Lib.keeps]
  have k2 : Go.Lib.keeps #[a, a, b, b] 2 = true := by simp [Go.Lib.keeps, h]
  have k3 : Go.Lib.keeps #[a, a, b, b] 3 = false := by simp [Go.Lib.keeps]
  show Go.Lib.compactUpTo #[a, a, b, b] (0 + 1 + 1 + 1 + 1) = _
  rw [Go.Lib.compactUpTo_succ, Go.Lib.compactUpTo_succ, Go.Lib.compactUpTo_succ, Go.Lib.compactUpTo_succ, k0, k1, k2, k3]
  simp [Go.Lib.compactUpTo]
def beP (w h : Int) (c : List Int) (n m : Int) : Bool := decide (openOk w h c m ∧ apart w h c n m = 1)
theorem near_compact {w h : Int} {c : List Int} {n : Int} (hn : cellOk w h c n) : Go.Lib.compact ([n - w, n - 1, n + 1, n + w].filter (beP w h c n)) = nearS w c n := by
  have hw := hn.1.1.1
  have hc := hn.1.2.1
  have hlen := hn.1.len
  have h0 := hn.2.1
  have h1 := hn.2.2
  have key : ∀ m, beP w h c n m = true ↔ (0 ≤ m ∧ m < (c.length : Int)) ∧ rd c m ≠ 2 ∧ (m = n - w ∨ (m = n - 1 ∧ 0 < n % w) ∨ (m = n + 1 ∧ n % w < w - 1) ∨ m = n + w) := by
    intro m
    unfold beP
    rw [decide_eq_true_eq, ← beside hw]
    constructor
    · rintro ⟨ho, ha⟩
      unfold apart at ha
      rw [if_pos ⟨hn, ho.1⟩] at ha
      exact ⟨ho.1.2, ho.2, ha⟩
    · rintro ⟨hm, hr, ha⟩
      have hm' : cellOk w h c m := ⟨hn.1, hm⟩
      refine ⟨⟨hm', hr⟩, ?_⟩
      unfold apart
      rw [if_pos ⟨hn, hm'⟩]
      exact ha
  by_cases hw1 : w = 1
  · subst hw1
    have e0 : beP 1 h c n (n - 1) = decide ((1 : Int) ≤ n ∧ rd c (n - 1) ≠ 2) := by
      rw [Bool.eq_iff_iff, key, decide_eq_true_eq]
      constructor
      · rintro ⟨a, b, _⟩
        exact ⟨by omega, b⟩
      · rintro ⟨a, b⟩
        exact ⟨by omega, b, .inl rfl⟩
    have e1 : beP 1 h c n (n + 1) = decide (n + 1 < (c.length : Int) ∧ rd c (n + 1) ≠ 2) := by
      rw [Bool.eq_iff_iff, key, decide_eq_true_eq]
      constructor
      · rintro ⟨a, b, _⟩
        exact ⟨by omega, b⟩
      · rintro ⟨a, b⟩
        exact ⟨by omega, b, .inr (.inr (.inr rfl))⟩
    have ne : n + 1 ≠ n - 1 := by omega
    unfold nearS
    rw [if_neg (show ¬ (0 < n % 1 ∧ rd c (n - 1) ≠ 2) by omega), if_neg (show ¬ (n % 1 < 1 - 1 ∧ rd c (n + 1) ≠ 2) by omega), List.append_nil, List.append_nil]
    simp only [List.filter_cons, List.filter_nil, e0, e1, decide_eq_true_eq]
    by_cases p : (1 : Int) ≤ n ∧ rd c (n - 1) ≠ 2
    · by_cases q : n + 1 < (c.length : Int) ∧ rd c (n + 1) ≠ 2
      · rw [if_pos p, if_pos p, if_pos q, if_pos q, if_pos p, compact4 ne]
        rfl
      · rw [if_pos p, if_pos p, if_neg q, if_neg q, if_pos p, compact2]
        rfl
    · by_cases q : n + 1 < (c.length : Int) ∧ rd c (n + 1) ≠ 2
      · rw [if_neg p, if_neg p, if_pos q, if_pos q, if_neg p, compact2]
        rfl
      · rw [if_neg p, if_neg p, if_neg q, if_neg q, if_neg p]
        rfl
  · have hw2 : 2 ≤ w := by omega
    rw [compact_asc (List.Pairwise.filter _ (by simp; omega))]
    have f0 : beP w h c n (n - w) = decide (w ≤ n ∧ rd c (n - w) ≠ 2) := by
      rw [Bool.eq_iff_iff, key, decide_eq_true_eq]
      constructor
      · rintro ⟨a, b, _⟩
        exact ⟨by omega, b⟩
      · rintro ⟨a, b⟩
        exact ⟨by omega, b, .inl rfl⟩
    have f1 : beP w h c n (n - 1) = decide (0 < n % w ∧ rd c (n - 1) ≠ 2) := by
      rw [Bool.eq_iff_iff, key, decide_eq_true_eq]
      constructor
      · rintro ⟨a, b, (d | d | d | d)⟩
        · omega
        · exact ⟨d.2, b⟩
        · omega
        · omega
      · rintro ⟨a, b⟩
        have hp : 0 < n := by
          rcases Int.lt_or_le 0 n with x | x
          · exact x
          · obtain rfl : n = 0 := by omega
            simp at a
        exact ⟨by omega, b, .inr (.inl ⟨rfl, a⟩)⟩
    have f2 : beP w h c n (n + 1) = decide (n % w < w - 1 ∧ rd c (n + 1) ≠ 2) := by
      rw [Bool.eq_iff_iff, key, decide_eq_true_eq]
      constructor
      · rintro ⟨a, b, (d | d | d | d)⟩
        · omega
        · omega
        · exact ⟨d.2, b⟩
        · omega
      · rintro ⟨a, b⟩
        have := rowMul (h := h) hw (by omega) a
        exact ⟨by omega, b, .inr (.inr (.inl ⟨rfl, a⟩))⟩
    have f3 : beP w h c n (n + w) = decide (n + w < (c.length : Int) ∧ rd c (n + w) ≠ 2) := by
      rw [Bool.eq_iff_iff, key, decide_eq_true_eq]
      constructor
      · rintro ⟨a, b, _⟩
        exact ⟨by omega, b⟩
      · rintro ⟨a, b⟩
        exact ⟨by omega, b, .inr (.inr (.inr rfl))⟩
    simp only [List.filter_cons, List.filter_nil, f0, f1, f2, f3, decide_eq_true_eq]
    unfold nearS
    have app : ∀ (a b d e : Prop) [Decidable a] [Decidable b] [Decidable d] [Decidable e] (x y z t : Int), (if a then x :: (if b then y :: (if d then z :: (if e then [t] else []) else (if e then [t] else [])) else (if d then z :: (if e then [t] else []) else (if e then [t] else []))) else (if b then y :: (if d then z :: (if e then [t] else []) else (if e then [t] else [])) else (if d then z :: (if e then [t] else []) else (if e then [t] else [])))) = (((if a then [x] else []) ++ (if b then [y] else [])) ++ (if d then [z] else [])) ++ (if e then [t] else []) := by
      intro a b d e _ _ _ _ x y z t
      by_cases ha : a <;> by_cases hb : b <;> by_cases hd : d <;> by_cases he : e <;> simp [ha, hb, hd, he]
    exact app _ _ _ _ _ _ _ _
theorem impl_Near_ev {w h : Int} {c : List Int} {n : Int} (hn : cellOk w h c n) : Ev (fun k => impl_Near.f k w h c n) (nearS w c n) := by
  have hw := hn.1.1.1
  have hlen := hn.1.len
  have h0 := hn.2.1
  have h1 := hn.2.2
  unfold impl_Near.f
  refine Ev.bind (impl_IsCell_ev w h c n) (evPos (decide_eq_true hn) ?_)
  simp only [Option.bind_some]
  rw [wrapId (n := n - w) (by omega) (by omega), wrapId (n := n - 1) (by omega) (by omega), wrapId (n := n + 1) (by omega) (by omega), wrapId (n := n + w) (by omega) (by omega)]
  have key := evScan [n - w, n - 1, n + 1, n + w] (fun k (acc : List Int) i => impl_Near.l0 k n acc [n - w, n - 1, n + 1, n + w] (([n - w, n - 1, n + 1, n + w] : List Int).length : Int) i w h c) (fun acc i t => Go.Lib.compact (acc ++ t.filter (beP w h c n))) (fun acc i => acc.length ≤ i) (fun acc _ => by
      refine Ev.step (f := fun _ => some (Go.Lib.compact acc)) (fun k => ?_) ?_
      · simp only [impl_Near.l0, slices_Compact_int_int.f, Option.bind_some]
        rw [if_neg (by omega)]
      · simp only [List.filter_nil, List.append_nil]
        exact Ev.now _) (fun acc i t hi _ ha ih => by
      generalize hL : [n - w, n - 1, n + 1, n + w] = L at *
      have hL4 : L.length = 4 := by rw [← hL]; rfl
      have st : ∀ k, impl_Near.l0 (k + 1) n acc L (L.length : Int) (i : Int) w h c = (impl_IsOpen.f k w h c L[i]).bind fun o => if o = true then ((impl_Apart.f k w h c n L[i]).bind fun d => if d = 1 then impl_Near.l0 k n (acc ++ [L[i]]) L (L.length : Int) ((i + 1 : Nat) : Int) w h c else impl_Near.l0 k n acc L (L.length : Int) ((i + 1 : Nat) : Int) w h c) else impl_Near.l0 k n acc L (L.length : Int) ((i + 1 : Nat) : Int) w h c := by
        intro k
        simp only [impl_Near.l0]
        rw [if_pos (by omega), if_pos (by omega), if_pos (by omega), rdIn hi, wrapSucc (by omega)]
        simp only [if_pos (show acc.length < 17592186044416 by omega)]
      have no : ¬ (openOk w h c L[i] ∧ apart w h c n L[i] = 1) → Ev (fun k => impl_Near.l0 k n acc L (L.length : Int) ((i + 1 : Nat) : Int) w h c) (Go.Lib.compact (acc ++ (L[i] :: t).filter (beP w h c n))) := by
        intro q
        rw [List.filter_cons, if_neg (by unfold beP; rw [decide_eq_true_eq]; exact q)]
        exact ih acc (by omega)
      refine Ev.step st (Ev.bind (impl_IsOpen_ev w h c L[i]) ?_)
      by_cases q1 : openOk w h c L[i]
      · refine evPos (decide_eq_true q1) (Ev.bind (impl_Apart_ev w h c n L[i]) ?_)
        by_cases q2 : apart w h c n L[i] = 1
        · refine evPos q2 ?_
          rw [List.filter_cons, if_pos (by unfold beP; rw [decide_eq_true_eq]; exact ⟨q1, q2⟩)]
          have := ih (acc ++ [L[i]]) (by simp; omega)
          rwa [List.append_assoc, List.singleton_append] at this
        · exact evNeg q2 (no (fun x => q2 x.2))
      · exact evNeg (by rw [decide_eq_true_eq]; exact q1) (no (fun x => q1 x.1)))
    [] (by simp)
  rw [List.nil_append, near_compact hn] at key
  exact key

theorem impl_bfs_ev {w h : Int} {c : List Int} (hl : landOk w h c) : ∀ (m : Nat) (d q : List Int), m ≤ 900 → SI c.length m d q → Ev (fun k => impl_distances.l2 k d q w h c) (bfs (nearS w c) m d q) := by
  have hlen := hl.len
  have stop : ∀ d : List Int, Ev (fun k => impl_distances.l2 k d [] w h c) d := by
    intro d
    refine Ev.step (f := fun _ => some d) (fun k => ?_) (Ev.now _)
    simp only [impl_distances.l2, List.length_nil]
    rw [if_neg (by omega)]
  intro m
  induction m with
  | zero =>
    intro d q hm hs
    have : q = [] := List.length_eq_zero_iff.1 (by have := hs.mea; omega)
    subst this
    exact stop d
  | succ m ih =>
    intro d q hm hs
    match q, hs with
    | [], _ => exact stop d
    | v :: t, hs =>
      have hv := (hs.qok v List.mem_cons_self).1
      have hd := (hs.qok v List.mem_cons_self).2
      have hb : rd d v + 1 ≤ 1000 - (m : Int) := by
        have := hs.top v hv.1 hv.2
        omega
      have hcell : cellOk w h c v := ⟨hl, hv⟩
      have st : ∀ k, impl_distances.l2 (k + 1) d (v :: t) w h c = (impl_Near.f k w h c v).bind fun nb => impl_distances.l3 k d t v nb (nb.length : Int) 0 w h c := by
        intro k
        simp only [impl_distances.l2, List.length_cons]
        rw [if_pos (by omega), if_pos (by omega), if_pos (by omega)]
        rfl
      refine Ev.step st (Ev.bind (impl_Near_ev hcell) ?_)
      simp only [bfs]
      have hn := adj_in hl v hv.1 hv.2
      have h4 := nearS_len w c v
      generalize nearS w c v = nb at hn h4 ⊢
      exact evScan nb (fun k (s : List Int × List Int) j => impl_distances.l3 k s.1 s.2 v nb (nb.length : Int) j w h c) (fun s _ r => bfs (nearS w c) m (relax v r s).1 (relax v r s).2) (fun s _ => RI c.length m v (rd d v) s) (fun s hr => by
          refine Ev.step (fun k => ?_) (ih s.1 s.2 (by omega) hr.si)
          simp only [impl_distances.l3]
          rw [if_neg (by omega)]) (fun s j r hj _ hr ih2 => by
          have hu := hn nb[j] (List.getElem_mem hj)
          have hlen1 := hr.si.len
          have hq : s.2.length < 17592186044416 := by
            have := hr.si.mea
            omega
          have st : ∀ k, impl_distances.l3 (k + 1) s.1 s.2 v nb (nb.length : Int) (j : Int) w h c = if rd s.1 nb[j] < 0 then impl_distances.l3 k (s.1.set nb[j].toNat (rd s.1 v + 1)) (s.2 ++ [nb[j]]) v nb (nb.length : Int) ((j + 1 : Nat) : Int) w h c else impl_distances.l3 k s.1 s.2 v nb (nb.length : Int) ((j + 1 : Nat) : Int) w h c := by
            intro k
            simp only [impl_distances.l3]
            rw [if_pos (by omega), if_pos (by omega), if_pos (by omega), rdIn hj, if_pos hu.1, if_pos (show nb[j] < (s.1.length : Int) by omega), if_pos hv.1, if_pos (show v < (s.1.length : Int) by omega), if_pos hq, wrapSucc (by omega), wrapId (n := rd s.1 v + 1) (by rw [hr.rdv]; omega) (by rw [hr.rdv]; omega)]
          refine Ev.step st ?_
          simp only [relax]
          by_cases g : rd s.1 nb[j] < 0
          · rw [if_pos g]
            refine evPos g ?_
            rw [hr.rdv]
            exact ih2 (s.1.set nb[j].toNat (rd d v + 1), s.2 ++ [nb[j]]) (hr.push hv hd hb hu g)
          · rw [if_neg g]
            exact evNeg g (ih2 s hr))
        (d, t) (RI.start hs)
theorem impl_distances_ev {w h : Int} {c : List Int} (hl : landOk w h c) {l : List Int} (hll : l.length ≤ 100000000) : Ev (fun k => impl_distances.f k w h c l) (distS w h c l) := by
  have hlen := hl.len
  have two : Ev (fun k => impl_distances.l1 k (blank c).1 (blank c).2 l (l.length : Int) 0 w h c) (distS w h c l) := by
    unfold distS
    have r0 := fun (l' : List Int) => seeds_SI hl l'
    exact evScan l (fun k (s : List Int × List Int) j => impl_distances.l1 k s.1 s.2 l (l.length : Int) j w h c) (fun s _ r => bfs (nearS w c) 200 (seeds w h c r s).1 (seeds w h c r s).2) (fun s _ => Sd w h c (fun _ => True) s) (fun s hs => by
        have si : SI c.length 200 s.1 s.2 := by
          refine ⟨hs.len, by have := hs.mea; omega, fun x hx => ⟨hs.rng x hx, ?_⟩, fun x h0 h1 => ?_⟩
          · rcases hs.all x (hs.rng x hx).1 (hs.rng x hx).2 with p | p
            · omega
            · exact absurd hx p.2
          · rcases hs.all x h0 h1 with p | p <;> omega
        refine Ev.step (fun k => ?_) (impl_bfs_ev hl 200 s.1 s.2 (by omega) si)
        simp only [impl_distances.l1]
        rw [if_neg (by omega)]) (fun s j r hj _ hs ih => by
        have hq : s.2.length < 17592186044416 := by
          have := hs.mea
          omega
        have st : ∀ k, impl_distances.l1 (k + 1) s.1 s.2 l (l.length : Int) (j : Int) w h c = (impl_IsOpen.f k w h c l[j]).bind fun o => if o = true then (if 0 ≤ l[j] then (if l[j] < (s.1.length : Int) then (if rd s.1 l[j] < 0 then impl_distances.l1 k (s.1.set l[j].toNat 0) (s.2 ++ [l[j]]) l (l.length : Int) ((j + 1 : Nat) : Int) w h c else impl_distances.l1 k s.1 s.2 l (l.length : Int) ((j + 1 : Nat) : Int) w h c) else none) else none) else impl_distances.l1 k s.1 s.2 l (l.length : Int) ((j + 1 : Nat) : Int) w h c := by
          intro k
          simp only [impl_distances.l1]
          rw [if_pos (by omega), if_pos (by omega), if_pos (by omega), rdIn hj, wrapSucc (by omega)]
          simp only [if_pos hq]
        refine Ev.step st (Ev.bind (impl_IsOpen_ev w h c l[j]) ?_)
        simp only [seeds]
        by_cases o : openOk w h c l[j]
        · refine evPos (decide_eq_true o) (evPos o.1.2.1 (evPos (show l[j] < (s.1.length : Int) by rw [hs.len]; exact o.1.2.2) ?_))
          by_cases g : rd s.1 l[j] < 0
          · rw [if_pos ⟨o, g⟩]
            exact evPos g (ih (s.1.set l[j].toNat 0, s.2 ++ [l[j]]) (hs.push o trivial g))
          · rw [if_neg (fun z => g z.2)]
            exact evNeg g (ih s hs)
        · rw [if_neg (fun z => o z.1)]
          exact evNeg (by rw [decide_eq_true_eq]; exact o) (ih s hs))
      (blank c) (blank_Sd w h c _)
  unfold impl_distances.f
  have key := evScan c (fun k (s : List Int) i => impl_distances.l0 k l s (c.length : Int) i w h c) (fun _ _ _ => distS w h c l) (fun s i => s = List.replicate i (-1)) (fun s hs => by
      subst hs
      refine Ev.step (fun k => ?_) two
      simp only [impl_distances.l0]
      rw [if_neg (by omega)]
      rfl) (fun s i t hi _ hs ih => by
      subst hs
      refine Ev.step (fun k => ?_) (ih (List.replicate (i + 1) (-1)) rfl)
      simp only [impl_distances.l0]
      rw [if_pos (by omega), if_pos (show (List.replicate i (-1 : Int)).length < 17592186044416 by simp; omega), wrapSucc (by omega), List.replicate_succ'])
    [] rfl
  exact key

theorem impl_within_ev {l : List Int} (most : Int) (hl : l.length ≤ 100000000) : Ev (fun k => impl_within.f k l most) (withinS most 0 l) := by
  have key := evScan l (fun k (acc : List Int) i => impl_within.l0 k most acc l (l.length : Int) i) (fun acc i t => acc ++ withinS most i t) (fun acc i => acc.length ≤ i) (fun acc _ => by
      simp only [withinS, List.append_nil]
      refine Ev.step (f := fun _ => some acc) (fun k => ?_) (Ev.now _)
      simp only [impl_within.l0]
      rw [if_neg (by omega)]) (fun acc i t hi _ ha ih => by
      have st : ∀ k, impl_within.l0 (k + 1) most acc l (l.length : Int) (i : Int) = if l[i] ≥ 0 then (if l[i] ≤ most then impl_within.l0 k most (acc ++ [(i : Int)]) l (l.length : Int) ((i + 1 : Nat) : Int) else impl_within.l0 k most acc l (l.length : Int) ((i + 1 : Nat) : Int)) else impl_within.l0 k most acc l (l.length : Int) ((i + 1 : Nat) : Int) := by
        intro k
        simp only [impl_within.l0]
        rw [if_pos (by omega), if_pos (by omega), if_pos (by omega), rdIn hi, wrapSucc (by omega), if_pos (show acc.length < 17592186044416 by omega)]
      refine Ev.step st ?_
      simp only [withinS]
      by_cases q0 : l[i] ≥ 0
      · refine evPos q0 ?_
        by_cases q1 : l[i] ≤ most
        · rw [if_pos ⟨q0, q1⟩]
          have := ih (acc ++ [(i : Int)]) (by simp; omega)
          rw [List.append_assoc, List.singleton_append] at this
          exact evPos q1 this
        · rw [if_neg (fun z => q1 z.2)]
          exact evNeg q1 (ih acc (by omega))
      · rw [if_neg (fun z => q0 z.1)]
        exact evNeg q0 (ih acc (by omega)))
    [] (by simp)
  unfold impl_within.f
  simpa using key

theorem impl_CanBe_ev (w h : Int) (c : List Int) {l : List Int} (steps : Int) (hl : l.length ≤ 100000000) : Ev (fun k => impl_CanBe.f k w h c l steps) (canS w h c l steps) := by
  have no : ¬ (0 ≤ steps ∧ landOk w h c) → Ev (fun k => impl_CanBe.j0 k l steps true w h c) (canS w h c l steps) := by
    intro q
    unfold canS
    rw [if_neg q]
    refine Ev.step (f := fun _ => some []) (fun k => ?_) (Ev.now _)
    simp only [impl_CanBe.j0, if_true]
  unfold impl_CanBe.f
  by_cases s : steps < 0
  · exact evPos s (no (fun x => by omega))
  · refine evNeg s (Ev.bind (impl_IsLand_ev w h c) ?_)
    by_cases q : landOk w h c
    · rw [decide_eq_true q, Bool.not_true]
      have := q.len
      refine Ev.step (f := fun k => (impl_distances.f k w h c l).bind fun t => (impl_within.f k t steps).bind fun z => some z) (fun k => ?_) ?_
      · simp only [impl_CanBe.j0, Bool.false_eq_true, if_false]
      · unfold canS
        rw [if_pos ⟨by omega, q⟩]
        exact Ev.bind (impl_distances_ev q hl) (Ev.bind (impl_within_ev steps (by rw [dist_len q]; omega)) (Ev.now _))
    · rw [decide_eq_false q, Bool.not_false]
      exact no (fun x => q x.2)

theorem impl_Seen_ev (w h : Int) (c : List Int) (mark far : Int) (hc : c.length ≤ 100000000) : Ev (fun k => impl_Seen.f k w h c mark far) (seenS w h c mark far) := by
  have key := evScan c (fun k (acc : List Int) i => impl_Seen.l0 k mark far acc (c.length : Int) i w h c) (fun acc i t => acc ++ seenFrom w h c mark far i t) (fun acc i => acc.length ≤ i) (fun acc _ => by
      simp only [seenFrom, List.append_nil]
      refine Ev.step (f := fun _ => some acc) (fun k => ?_) (Ev.now _)
      simp only [impl_Seen.l0]
      rw [if_neg (by omega)]) (fun acc i t hi _ ha ih => by
      have st : ∀ k, impl_Seen.l0 (k + 1) mark far acc (c.length : Int) (i : Int) w h c = (impl_IsCell.f k w h c mark).bind fun q => if q = true then ((impl_IsOpen.f k w h c (i : Int)).bind fun o => if o = true then ((impl_Apart.f k w h c mark (i : Int)).bind fun d => if d = far then impl_Seen.l0 k mark far (acc ++ [(i : Int)]) (c.length : Int) ((i + 1 : Nat) : Int) w h c else impl_Seen.l0 k mark far acc (c.length : Int) ((i + 1 : Nat) : Int) w h c) else impl_Seen.l0 k mark far acc (c.length : Int) ((i + 1 : Nat) : Int) w h c) else impl_Seen.l0 k mark far acc (c.length : Int) ((i + 1 : Nat) : Int) w h c := by
        intro k
        simp only [impl_Seen.l0]
        rw [if_pos (by omega), wrapSucc (by omega)]
        simp only [if_pos (show acc.length < 17592186044416 by omega)]
      have no : ¬ (cellOk w h c mark ∧ openOk w h c (i : Int) ∧ apart w h c mark (i : Int) = far) → Ev (fun k => impl_Seen.l0 k mark far acc (c.length : Int) ((i + 1 : Nat) : Int) w h c) (acc ++ seenFrom w h c mark far i (c[i] :: t)) := by
        intro q
        simp only [seenFrom, if_neg q]
        exact ih acc (by omega)
      refine Ev.step st (Ev.bind (impl_IsCell_ev w h c mark) ?_)
      by_cases q0 : cellOk w h c mark
      · refine evPos (decide_eq_true q0) (Ev.bind (impl_IsOpen_ev w h c (i : Int)) ?_)
        by_cases q1 : openOk w h c (i : Int)
        · refine evPos (decide_eq_true q1) (Ev.bind (impl_Apart_ev w h c mark (i : Int)) ?_)
          by_cases q2 : apart w h c mark (i : Int) = far
          · refine evPos q2 ?_
            simp only [seenFrom, if_pos (show cellOk w h c mark ∧ openOk w h c (i : Int) ∧ apart w h c mark (i : Int) = far from ⟨q0, q1, q2⟩)]
            have := ih (acc ++ [(i : Int)]) (by simp; omega)
            rwa [List.append_assoc, List.singleton_append] at this
          · exact evNeg q2 (no (fun x => q2 x.2.2))
        · exact evNeg (by rw [decide_eq_true_eq]; exact q1) (no (fun x => q1 x.2.1))
      · exact evNeg (by rw [decide_eq_true_eq]; exact q0) (no (fun x => q0 x.1)))
    [] (by simp)
  unfold impl_Seen.f seenS
  simpa using key

/-- The index of a number in a list of which the first stands at i; -1 if it is not there. -/
def placeS (n : Int) : Nat → List Int → Int
  | _, [] => -1
  | i, y :: t => if y = n then (i : Int) else placeS n (i + 1) t
theorem placeS_mem (n : Int) : ∀ (t : List Int) (i : Nat), (0 ≤ placeS n i t) ↔ n ∈ t
  | [], i => by simp [placeS]
  | y :: t, i => by
    simp only [placeS]
    by_cases c : y = n
    · simp [c]
    · have c' : ¬ n = y := fun e => c e.symm
      rw [if_neg c, placeS_mem n t (i + 1)]
      simp [c']
theorem placeOf_ev {l : List Int} (n : Int) (hl : l.length ≤ 100000000) : Ev (fun k => impl_placeOf.f k l n) (placeS n 0 l) := by
  have key := evScan l (fun k (_ : Unit) i => impl_placeOf.l0 k n l (l.length : Int) i) (fun _ i t => placeS n i t) (fun _ _ => True) (fun _ _ => by
      refine Ev.step (f := fun _ => some (-1)) (fun k => ?_) (Ev.now _)
      simp only [impl_placeOf.l0]
      rw [if_neg (by omega)]) (fun _ i t h ht _ ih => by
      have st : ∀ k, impl_placeOf.l0 (k + 1) n l (l.length : Int) (i : Int) = if l[i] = n then some (i : Int) else impl_placeOf.l0 k n l (l.length : Int) ((i + 1 : Nat) : Int) := by
        intro k
        simp only [impl_placeOf.l0]
        rw [if_pos (by omega), if_pos (by omega), if_pos (by omega), rdIn h, wrapSucc (by omega)]
      refine Ev.step st ?_
      simp only [placeS]
      by_cases c : l[i] = n
      · rw [if_pos c]
        exact evPos c (Ev.now _)
      · rw [if_neg c]
        exact evNeg c (ih () trivial))
    () trivial
  unfold impl_placeOf.f
  exact key
theorem has_ev {l : List Int} (n : Int) (hl : l.length ≤ 100000000) : Ev (fun k => impl_has.f k l n) (decide (n ∈ l)) := by
  unfold impl_has.f
  refine Ev.bind (placeOf_ev n hl) ?_
  simp only [ge_iff_le, placeS_mem]
  exact Ev.now _

theorem impl_Cross_ev {a b : List Int} (ha : a.length ≤ 100000000) (hb : b.length ≤ 100000000) : Ev (fun k => impl_Cross.f k a b) (crossS a b) := by
  have key := evScan a (fun k (acc : List Int) i => impl_Cross.l0 k b acc a (a.length : Int) i) (fun acc _ t => acc ++ crossS t b) (fun acc i => acc.length ≤ i) (fun acc _ => by
      refine Ev.step (f := fun _ => some acc) (fun k => ?_) ?_
      · simp only [impl_Cross.l0]
        rw [if_neg (by omega)]
      · simp only [crossS, List.filter_nil, List.append_nil]
        exact Ev.now _) (fun acc i t h ht hi ih => by
      have st : ∀ k, impl_Cross.l0 (k + 1) b acc a (a.length : Int) (i : Int) = (impl_has.f k b a[i]).bind fun t => if t = true then impl_Cross.l0 k b (acc ++ [a[i]]) a (a.length : Int) ((i + 1 : Nat) : Int) else impl_Cross.l0 k b acc a (a.length : Int) ((i + 1 : Nat) : Int) := by
        intro k
        simp only [impl_Cross.l0]
        rw [if_pos (by omega), if_pos (by omega), if_pos (by omega), rdIn h, wrapSucc (by omega)]
        congr 1
        funext t
        rw [if_pos (show acc.length < 17592186044416 by omega)]
      refine Ev.step st (Ev.bind (has_ev a[i] hb) ?_)
      by_cases c : a[i] ∈ b
      · simp only [c, decide_true, if_true]
        have := ih (acc ++ [a[i]]) (by simp; omega)
        simpa [crossS, c] using this
      · simp only [c, decide_false]
        have := ih acc (by omega)
        simpa [crossS, c] using this)
    [] (by simp)
  unfold impl_Cross.f
  simpa using key

theorem impl_PlacesAfter_ev (w h : Int) (c : List Int) {l marks fars : List Int} (steps : Int) (hc : c.length ≤ 1048576) (hl : l.length ≤ 100000000) (hm : marks.length ≤ 100000000) : Ev (fun k => impl_PlacesAfter.f k w h c l steps marks fars) (afterS w h c l steps marks fars) := by
  unfold impl_PlacesAfter.f afterS
  by_cases q : marks.length = fars.length
  · rw [if_pos q]
    refine evPos (by omega) (Ev.bind (impl_CanBe_ev w h c steps hl) ?_)
    have key := evScan marks (fun k (acc : List Int) i => impl_PlacesAfter.l0 k fars acc marks (marks.length : Int) i w h c) (fun acc i t => crossAll w h c acc (t.zip (fars.drop i))) (fun acc _ => acc.length ≤ 1048576) (fun acc _ => by
        simp only [List.zip_nil_left, crossAll]
        refine Ev.step (f := fun _ => some acc) (fun k => ?_) (Ev.now _)
        simp only [impl_PlacesAfter.l0]
        rw [if_neg (by omega)]) (fun acc i t hi ht ha ih => by
        have hs : (seenS w h c marks[i] fars[i]).length ≤ 1048576 := Nat.le_trans (seenFrom_len w h c _ _ c 0) hc
        have st : ∀ k, impl_PlacesAfter.l0 (k + 1) fars acc marks (marks.length : Int) (i : Int) w h c = (impl_Seen.f k w h c marks[i] fars[i]).bind fun s => (impl_Cross.f k acc s).bind fun a => impl_PlacesAfter.l0 k fars a marks (marks.length : Int) ((i + 1 : Nat) : Int) w h c := by
          intro k
          simp only [impl_PlacesAfter.l0]
          rw [if_pos (by omega), if_pos (by omega), if_pos (by omega), if_pos (by omega), rdIn hi, rdIn (show i < fars.length by omega), wrapSucc (by omega)]
        refine Ev.step st (Ev.bind (impl_Seen_ev w h c _ _ (by omega)) (Ev.bind (impl_Cross_ev (by omega) (by omega)) ?_))
        rw [zip_drop hi ht q]
        exact ih _ (Nat.le_trans (List.length_filter_le _ _) ha))
      (canS w h c l steps) (canS_len w h c l steps hc)
    simpa using key
  · rw [if_neg q]
    exact evNeg (by omega) (Ev.now _)

theorem contains_ev {l : List Int} (n : Int) (hl : l.length ≤ 100000000) : Ev (fun k => laws_contains.f k l n) (decide (n ∈ l)) := by
  have key := evScan l (fun k (_ : Unit) i => laws_contains.l0 k l n i) (fun _ _ t => decide (n ∈ t)) (fun _ _ => True) (fun _ _ => by
      refine Ev.step (f := fun _ => some false) (fun k => ?_) (Ev.now _)
      simp only [laws_contains.l0]
      rw [if_neg (by omega)]) (fun _ i t h ht _ ih => by
      have st : ∀ k, laws_contains.l0 (k + 1) l n (i : Int) = if l[i] = n then some true else laws_contains.l0 k l n ((i + 1 : Nat) : Int) := by
        intro k
        simp only [laws_contains.l0]
        rw [if_pos (by omega), if_pos (by omega), rdIn h, wrapSucc (by omega)]
      refine Ev.step st ?_
      by_cases c : l[i] = n
      · refine evPos c ?_
        simp only [List.mem_cons, c, true_or, decide_true]
        exact Ev.now _
      · refine evNeg c ?_
        have := ih () trivial
        have c' : ¬ n = l[i] := fun e => c e.symm
        simpa [c'] using this)
    () trivial
  unfold laws_contains.f
  exact key

theorem within_ev {a b : List Int} (ha : a.length ≤ 100000000) (hb : b.length ≤ 100000000) (h : ∀ x ∈ a, x ∈ b) : Ev (fun k => laws_within.f k a b) true := by
  have key := evScan a (fun k (_ : Unit) i => laws_within.l0 k a b i) (fun _ _ _ => true) (fun _ _ => True) (fun _ _ => by
      refine Ev.step (f := fun _ => some true) (fun k => ?_) (Ev.now _)
      simp only [laws_within.l0]
      rw [if_neg (by omega)]) (fun _ i t hi _ _ ih => by
      have st : ∀ k, laws_within.l0 (k + 1) a b (i : Int) = (laws_contains.f k b a[i]).bind fun t => if t = true then laws_within.l0 k a b ((i + 1 : Nat) : Int) else some false := by
        intro k
        simp only [laws_within.l0]
        rw [if_pos (by omega), if_pos (by omega), rdIn hi, wrapSucc (by omega)]
      exact Ev.step st (Ev.bind (contains_ev a[i] hb) (evPos (decide_eq_true (h _ (List.getElem_mem hi))) (ih () trivial))))
    () trivial
  unfold laws_within.f
  exact key
theorem ascends_ev {l : List Int} (hl : l.length ≤ 100000000) (h : l.Pairwise (· < ·)) : Ev (fun k => laws_ascends.f k l) true := by
  have key : ∀ (d i : Nat), 1 ≤ i → l.length ≤ i + d → Ev (fun k => laws_ascends.l0 k l (i : Int)) true := by
    intro d
    induction d with
    | zero =>
      intro i h1 hd
      refine Ev.step (f := fun _ => some true) (fun k => ?_) (Ev.now _)
      simp only [laws_ascends.l0]
      rw [if_neg (by omega)]
    | succ d ih =>
      intro i h1 hd
      by_cases q : i < l.length
      · have lt : l[i - 1] < l[i] := List.pairwise_iff_getElem.1 h (i - 1) i (by omega) q (by omega)
        refine Ev.step (fun k => ?_) (ih (i + 1) (by omega) (by omega))
        simp only [laws_ascends.l0]
        rw [wrapId (n := (i : Int) - 1) (by omega) (by omega), show (i : Int) - 1 = ((i - 1 : Nat) : Int) by omega, if_pos (by omega), if_pos (by omega), if_pos (by omega), if_pos (by omega), rdIn (show i - 1 < l.length by omega), rdIn q, if_neg (by omega), wrapSucc (by omega)]
      · refine Ev.step (f := fun _ => some true) (fun k => ?_) (Ev.now _)
        simp only [laws_ascends.l0]
        rw [if_neg (by omega)]
  unfold laws_ascends.f
  exact key l.length 1 (by omega) (by omega)

theorem withinS_asc (most : Int) : ∀ (t : List Int) (i : Nat), (∀ y ∈ withinS most i t, (i : Int) ≤ y) ∧ (withinS most i t).Pairwise (· < ·)
  | [], i => by simp [withinS]
  | x :: t, i => by
    obtain ⟨h0, h1⟩ := withinS_asc most t (i + 1)
    simp only [withinS]
    by_cases c : 0 ≤ x ∧ x ≤ most
    · rw [if_pos c]
      refine ⟨fun y hy => ?_, List.pairwise_cons.2 ⟨fun y hy => ?_, h1⟩⟩
      · rcases List.mem_cons.1 hy with rfl | hy
        · exact Int.le_refl _
        · have := h0 y hy
          omega
      · have := h0 y hy
        omega
    · rw [if_neg c]
      refine ⟨fun y hy => ?_, h1⟩
      have := h0 y hy
      omega
theorem withinS_more {m n : Int} (h : m ≤ n) : ∀ (t : List Int) (i : Nat), ∀ y ∈ withinS m i t, y ∈ withinS n i t
  | [], _, y, hy => by simp [withinS] at hy
  | x :: t, i, y, hy => by
    have ih := withinS_more h t (i + 1) y
    simp only [withinS] at hy ⊢
    by_cases c : 0 ≤ x ∧ x ≤ m
    · rw [if_pos c] at hy
      rw [if_pos ⟨c.1, by omega⟩]
      rcases List.mem_cons.1 hy with rfl | hy
      · exact List.mem_cons_self
      · exact List.mem_cons_of_mem _ (ih hy)
    · rw [if_neg c] at hy
      split
      · exact List.mem_cons_of_mem _ (ih hy)
      · exact ih hy
theorem canS_asc (w h : Int) (c l : List Int) (steps : Int) : (canS w h c l steps).Pairwise (· < ·) := by
  unfold canS
  split
  · exact (withinS_asc steps _ 0).2
  · exact List.Pairwise.nil
theorem canS_more (w h : Int) (c l : List Int) {m n : Int} (hmn : m ≤ n) : ∀ y ∈ canS w h c l m, y ∈ canS w h c l n := by
  intro y hy
  unfold canS at hy ⊢
  by_cases q : 0 ≤ m ∧ landOk w h c
  · rw [if_pos q] at hy
    rw [if_pos ⟨by omega, q.2⟩]
    exact withinS_more hmn _ 0 y hy
  · rw [if_neg q] at hy
    cases hy
theorem mem_pick (P : Int → Bool) : ∀ (t : List Int) (i : Nat) (y : Int), y ∈ pickFrom P i t ↔ (P y = true ∧ (i : Int) ≤ y ∧ y < ((i + t.length : Nat) : Int))
  | [], i, y => by
    simp only [pickFrom, List.not_mem_nil, List.length_nil, false_iff]
    omega
  | _ :: t, i, y => by
    have ih := mem_pick P t (i + 1) y
    simp only [pickFrom, List.length_cons]
    by_cases c : P (i : Int) = true
    · rw [if_pos c, List.mem_cons, ih]
      constructor
      · rintro (rfl | ⟨a, b, d⟩)
        · exact ⟨c, by omega, by omega⟩
        · exact ⟨a, by omega, by omega⟩
      · rintro ⟨a, b, d⟩
        by_cases e : y = (i : Int)
        · exact .inl e
        · exact .inr ⟨a, by omega, by omega⟩
    · rw [if_neg c, ih]
      constructor
      · rintro ⟨a, b, d⟩
        exact ⟨a, by omega, by omega⟩
      · rintro ⟨a, b, d⟩
        have e : y ≠ (i : Int) := by
          rintro rfl
          exact c a
        exact ⟨a, by omega, by omega⟩
theorem canS_open {w h : Int} {c l : List Int} {steps y : Int} (hy : y ∈ canS w h c l steps) : openOk w h c y := by
  by_cases q : 0 ≤ steps ∧ landOk w h c
  · rw [canS_pick q.1 q.2] at hy
    have := ((mem_pick _ c 0 y).1 hy).1
    unfold canP at this
    simp only [Bool.and_eq_true, decide_eq_true_eq] at this
    exact this.1
  · unfold canS at hy
    rw [if_neg q] at hy
    cases hy
theorem canS_self {w h : Int} {c l : List Int} {steps y : Int} (hs : 0 ≤ steps) (ho : openOk w h c y) (hy : y ∈ l) : y ∈ canS w h c l steps := by
  rw [canS_pick hs ho.1.1]
  refine (mem_pick _ c 0 y).2 ⟨?_, by have := ho.1.2.1; omega, by have := ho.1.2.2; omega⟩
  unfold canP
  simp only [Bool.and_eq_true, decide_eq_true_eq, List.any_eq_true]
  refine ⟨ho, y, hy, ?_⟩
  unfold daysS
  rw [if_pos ⟨ho, ho⟩, dist_self ho (by simp)]
  omega
theorem mem_seenFrom (w h : Int) (c : List Int) (mark far : Int) : ∀ (t : List Int) (i : Nat) (y : Int), y ∈ seenFrom w h c mark far i t ↔ ((cellOk w h c mark ∧ openOk w h c y ∧ apart w h c mark y = far) ∧ (i : Int) ≤ y ∧ y < ((i + t.length : Nat) : Int))
  | [], i, y => by
    simp only [seenFrom, List.not_mem_nil, List.length_nil, false_iff]
    omega
  | _ :: t, i, y => by
    have ih := mem_seenFrom w h c mark far t (i + 1) y
    simp only [seenFrom, List.length_cons]
    by_cases q : cellOk w h c mark ∧ openOk w h c (i : Int) ∧ apart w h c mark (i : Int) = far
    · rw [if_pos q, List.mem_cons, ih]
      constructor
      · rintro (rfl | ⟨a, b, d⟩)
        · exact ⟨q, by omega, by omega⟩
        · exact ⟨a, by omega, by omega⟩
      · rintro ⟨a, b, d⟩
        by_cases e : y = (i : Int)
        · exact .inl e
        · exact .inr ⟨a, by omega, by omega⟩
    · rw [if_neg q, ih]
      constructor
      · rintro ⟨a, b, d⟩
        exact ⟨a, by omega, by omega⟩
      · rintro ⟨a, b, d⟩
        have e : y ≠ (i : Int) := by
          rintro rfl
          exact q a
        exact ⟨a, by omega, by omega⟩
theorem absI_pos (x : Int) : 0 ≤ absI x := by
  unfold absI
  split <;> omega
/-- What a mark allows of a cell, as the law tells it. -/
def fits (w h : Int) (c : List Int) (y : Int) (p : Int × Int) : Bool := decide (apart w h c p.1 y = p.2 ∧ p.2 ≥ 0)
theorem seen_fits {w h : Int} {c : List Int} {y : Int} (ho : openOk w h c y) (p : Int × Int) : y ∈ seenS w h c p.1 p.2 ↔ fits w h c y p = true := by
  unfold seenS fits
  rw [mem_seenFrom, decide_eq_true_eq]
  constructor
  · rintro ⟨⟨a, _, d⟩, _⟩
    refine ⟨d, ?_⟩
    rw [← d]
    unfold apart
    rw [if_pos ⟨a, ho.1⟩]
    have := absI_pos (p.1 % w - y % w)
    have := absI_pos (p.1 / w - y / w)
    omega
  · rintro ⟨a, b⟩
    refine ⟨⟨?_, ho, a⟩, by have := ho.1.2.1; omega, by have := ho.1.2.2; omega⟩
    by_cases q : cellOk w h c p.1
    · exact q
    · unfold apart at a
      rw [if_neg (fun z => q z.1)] at a
      omega
theorem mem_crossAll {w h : Int} {c : List Int} {y : Int} (ho : openOk w h c y) : ∀ (t : List (Int × Int)) (acc : List Int), y ∈ crossAll w h c acc t ↔ (y ∈ acc ∧ t.all (fits w h c y) = true)
  | [], acc => by simp [crossAll]
  | p :: t, acc => by
    simp only [crossAll, List.all_cons, Bool.and_eq_true]
    rw [mem_crossAll ho t]
    unfold crossS
    rw [List.mem_filter, decide_eq_true_eq, seen_fits ho p, and_assoc]
theorem after_can {w h : Int} {c l : List Int} {steps : Int} {marks fars : List Int} : ∀ y ∈ afterS w h c l steps marks fars, y ∈ canS w h c l steps := by
  intro y hy
  unfold afterS at hy
  split at hy
  · have gen : ∀ (t : List (Int × Int)) (acc : List Int), y ∈ crossAll w h c acc t → y ∈ acc := by
      intro t
      induction t with
      | nil => exact fun acc z => z
      | cons p t ih => exact fun acc z => (List.mem_filter.1 (ih _ z)).1
    exact gen _ _ hy
  · cases hy
/-- The end: where one begins one can be, and more steps leave no less. -/
theorem tail_ev {l p : List Int} (hl : l.length ≤ 1048576) : Ev (fun k => (spec_DrawCanBe.f k l).bind fun bt => (impl_CanBe.f k bt.1 bt.2.1 bt.2.2.1 bt.2.2.2.1 bt.2.2.2.2).bind fun t => laws_FnPlaces.l2 k p bt.2.2.2.1 bt.2.2.2.2 t 0 bt.1 bt.2.1 bt.2.2.1) true := by
  obtain ⟨w, h, c, a, b, n, e, hc, n0, n1⟩ := DrawCanBe_ev hl
  have cl := canS_len w h c [a, b] n (by omega)
  have cl2 := canS_len w h c [a, b] (n + 1) (by omega)
  refine Ev.bind e (Ev.bind (impl_CanBe_ev w h c n (by simp)) ?_)
  have f2 : ([a, b] : List Int).length ≤ 100 := by simp
  show Ev (fun k => laws_FnPlaces.l2 k p [a, b] n (canS w h c [a, b] n) 0 w h c) true
  generalize hf : ([a, b] : List Int) = f at *
  exact evScan f (fun k (_ : Unit) i => laws_FnPlaces.l2 k p f n (canS w h c f n) i w h c) (fun _ _ _ => true) (fun _ _ => True) (fun _ _ => by
      refine Ev.step (f := fun k => (impl_CanBe.f k w h c f (n + 1)).bind fun t => (laws_within.f k (canS w h c f n) t).bind fun z => if z = true then ((impl_IsLost.f p).bind fun t => some (t == ((p.length : Int) != 1))) else some false) (fun k => ?_) (Ev.bind (impl_CanBe_ev w h c (n + 1) (by omega)) (Ev.bind (within_ev (by omega) (by omega) (canS_more w h c f (by omega))) (evPos rfl ?_)))
      · simp only [laws_FnPlaces.l2]
        rw [if_neg (by omega), wrapId (n := n + 1) (by omega) (by omega)]
      · simp only [impl_IsLost.f, Option.bind_some, beq_self_eq_true]
        exact Ev.now _) (fun _ i t hi _ _ ih => by
      have ih := ih () trivial
      by_cases g : n ≥ 0
      · have st : ∀ k, laws_FnPlaces.l2 (k + 1) p f n (canS w h c f n) (i : Int) w h c = (impl_IsOpen.f k w h c f[i]).bind fun o => if o = true then ((laws_contains.f k (canS w h c f n) f[i]).bind fun q => if q = true then laws_FnPlaces.l2 k p f n (canS w h c f n) ((i + 1 : Nat) : Int) w h c else some false) else laws_FnPlaces.l2 k p f n (canS w h c f n) ((i + 1 : Nat) : Int) w h c := by
          intro k
          simp only [laws_FnPlaces.l2]
          rw [if_pos (by omega), if_pos g, if_pos (by omega), rdIn hi, wrapSucc (by omega)]
        refine Ev.step st (Ev.bind (impl_IsOpen_ev w h c f[i]) ?_)
        by_cases o : openOk w h c f[i]
        · exact evPos (decide_eq_true o) (Ev.bind (contains_ev f[i] (by omega)) (evPos (decide_eq_true (canS_self g o (List.getElem_mem hi))) ih))
        · exact evNeg (by rw [decide_eq_true_eq]; exact o) ih
      · refine Ev.step (fun k => ?_) ih
        simp only [laws_FnPlaces.l2]
        rw [if_pos (by omega), if_neg g, wrapSucc (by omega)])
    () trivial
def FnPlaces.Claim : Prop := ∀ (l0 : List (Int)), l0.length ≤ maxLen → (∀ x ∈ l0, (Lit.int .u8 x).wf = true) → ∃ k, laws_FnPlaces.f k l0 = some true
theorem FnPlaces : FnPlaces.Claim := by
  intro l _ _
  apply Ev.rounds
  unfold laws_FnPlaces.f
  simp only [big_eq, Option.bind_some]
  by_cases hb : (l.length : Int) > 1048576
  · exact evPos (decide_eq_true hb) (Ev.now _)
  refine evNeg (by rw [decide_eq_true_eq]; exact hb) ?_
  have hl : l.length ≤ 1048576 := by omega
  obtain ⟨w, h, c, marks, fars, e, lo, hm, hf⟩ := DrawPlacesAfter_ev hl
  have hlen := lo.len
  have cl := canS_len w h c [0] 3 (by omega)
  have al := afterS_len w h c [0] 3 marks fars (by omega)
  refine Ev.bind e (Ev.bind (a := canS w h c [0] 3) (impl_CanBe_ev w h c 3 (by simp)) (Ev.bind (a := afterS w h c [0] 3 marks fars) (impl_PlacesAfter_ev w h c 3 (by omega) (by simp) (by dsimp only; omega)) (Ev.bind (ascends_ev (by omega) (canS_asc w h c [0] 3)) (evPos rfl (Ev.bind (within_ev (by omega) (by omega) after_can) (evPos rfl ?_))))))
  have last : ∀ (p : List Int) (i : Int), Ev (fun k => laws_FnPlaces.j2 k l marks fars (canS w h c [0] 3) p i false w h c) true := by
    intro p i
    refine Ev.step (fun k => ?_) (tail_ev (p := p) hl)
    simp only [laws_FnPlaces.j2, Bool.false_eq_true, if_false]
  by_cases q : marks.length = fars.length
  · refine evPos (by dsimp only; omega) ?_
    have pe : afterS w h c [0] 3 marks fars = crossAll w h c (canS w h c [0] 3) (marks.zip fars) := by
      unfold afterS
      rw [if_pos q]
    rw [pe] at al ⊢
    have qb : ((marks.length : Int) == (fars.length : Int)) = true := by rw [beq_iff_eq]; omega
    have ca : ∀ y ∈ canS w h c [0] 3, openOk w h c y := fun y hy => canS_open hy
    generalize canS w h c [0] 3 = can at cl al ca ⊢
    generalize hp : crossAll w h c can (marks.zip fars) = p at al ⊢
    have main : Ev (fun k => laws_FnPlaces.l0 k l marks fars can p 0 w h c) true := by
      refine evScan can (fun k (_ : Unit) i => laws_FnPlaces.l0 k l marks fars can p i w h c) (fun _ _ _ => true) (fun _ _ => True) (fun _ _ => ?_) (fun _ i t hi _ _ ih => ?_) () trivial
      · refine Ev.step (f := fun k => laws_FnPlaces.j2 k l marks fars can p (can.length : Int) false w h c) (fun k => ?_) (Ev.step (fun k => ?_) (tail_ev (p := p) hl))
        · simp only [laws_FnPlaces.l0]
          rw [if_neg (by omega)]
        · simp only [laws_FnPlaces.j2, Bool.false_eq_true, if_false]
      · have ih := ih () trivial
        have oy := ca can[i] (List.getElem_mem hi)
        refine Ev.step (f := fun k => laws_FnPlaces.j2 k l marks fars can p (i : Int) true w h c) (fun k => ?_) (Ev.step (f := fun k => laws_FnPlaces.l1 k l marks fars can p (i : Int) true 0 w h c) (fun k => ?_) ?_)
        · simp only [laws_FnPlaces.l0, qb]
          rw [if_pos (by omega)]
        · simp only [laws_FnPlaces.j2, if_true]
        · have key := evScan marks (fun k (b : Bool) j => laws_FnPlaces.l1 k l marks fars can p (i : Int) b j w h c) (fun b j t => (b && (t.zip (fars.drop j)).all (fits w h c can[i])) == decide (can[i] ∈ p)) (fun _ _ => True) (fun b _ => ?_) (fun b j t hj ht _ ih2 => ?_) true trivial
          · rw [List.drop_zero, Bool.true_and] at key
            have e2 : (marks.zip fars).all (fits w h c can[i]) = decide (can[i] ∈ p) := by
              rw [← hp, Bool.eq_iff_iff, decide_eq_true_eq, mem_crossAll oy]
              exact ⟨fun z => ⟨List.getElem_mem hi, z⟩, fun z => z.2⟩
            rw [e2, beq_self_eq_true] at key
            exact key
          · simp only [List.zip_nil_left, List.all_nil, Bool.and_true]
            refine Ev.step (f := fun k => (laws_contains.f k p can[i]).bind fun z => if (b != z) = true then some false else laws_FnPlaces.l0 k l marks fars can p ((i + 1 : Nat) : Int) w h c) (fun k => ?_) (Ev.bind (contains_ev can[i] (by omega)) ?_)
            · simp only [laws_FnPlaces.l1]
              rw [if_neg (by omega), if_pos (by omega), if_pos (by omega), rdIn hi, wrapSucc (by omega)]
            · by_cases z : b = decide (can[i] ∈ p)
              · rw [z, beq_self_eq_true]
                exact evNeg (by simp) ih
              · have nz : (b == decide (can[i] ∈ p)) = false := by simpa using z
                rw [nz]
                exact evPos (by simpa [bne] using z) (Ev.now _)
          · have hj2 : j < fars.length := by omega
            rw [zip_drop hj ht q, List.all_cons]
            cases b with
            | true =>
              have st : ∀ k, laws_FnPlaces.l1 (k + 1) l marks fars can p (i : Int) true (j : Int) w h c = (impl_Apart.f k w h c marks[j] can[i]).bind fun z => if z = fars[j] then laws_FnPlaces.l1 k l marks fars can p (i : Int) (decide (fars[j] ≥ 0)) ((j + 1 : Nat) : Int) w h c else laws_FnPlaces.l1 k l marks fars can p (i : Int) false ((j + 1 : Nat) : Int) w h c := by
                intro k
                simp only [laws_FnPlaces.l1, if_true]
                simp only [if_pos (show (j : Int) < (marks.length : Int) by omega), if_pos (show (0 : Int) ≤ (j : Int) by omega), if_pos (show (0 : Int) ≤ (i : Int) by omega), if_pos (show (i : Int) < (can.length : Int) by omega), if_pos (show (j : Int) < (fars.length : Int) by omega), rdIn hj, rdIn hi, rdIn hj2, wrapSucc (show j < 4611686018427387904 by omega)]
              refine Ev.step st (Ev.bind (impl_Apart_ev w h c marks[j] can[i]) ?_)
              rw [Bool.true_and]
              by_cases g : apart w h c marks[j] can[i] = fars[j]
              · have := ih2 (decide (fars[j] ≥ 0)) trivial
                have e3 : fits w h c can[i] (marks[j], fars[j]) = decide (fars[j] ≥ 0) := by
                  unfold fits
                  simp only [g, true_and]
                rw [e3]
                exact evPos g this
              · have := ih2 false trivial
                have e3 : fits w h c can[i] (marks[j], fars[j]) = false := by
                  unfold fits
                  simp only [g, false_and, decide_false]
                rw [e3]
                exact evNeg g this
            | false =>
              have := ih2 false trivial
              rw [Bool.false_and] at this ⊢
              refine Ev.step (fun k => ?_) this
              simp only [laws_FnPlaces.l1, Bool.false_eq_true, if_false]
              rw [if_pos (by omega), wrapSucc (by omega)]
    refine Ev.step (fun k => ?_) main
    simp only [laws_FnPlaces.j0, Bool.false_eq_true, if_false]
  · refine evNeg (by dsimp only; omega) ?_
    have pe : afterS w h c [0] 3 marks fars = [] := by
      unfold afterS
      rw [if_neg q]
    have qb : ((marks.length : Int) == (fars.length : Int)) = false := by rw [beq_eq_false_iff_ne]; omega
    rw [pe]
    refine Ev.step (f := fun k => laws_FnPlaces.l0 k l marks fars (canS w h c [0] 3) [] 0 w h c) (fun k => ?_) (Ev.step (f := fun k => laws_FnPlaces.j2 k l marks fars (canS w h c [0] 3) [] 0 false w h c) (fun k => ?_) (last [] 0))
    · simp [laws_FnPlaces.j0]
    · simp only [laws_FnPlaces.l0, qb]
      split <;> rfl
end Go.Proofs.Ytdgpnmbmnnmdcab.Pure
