/- The law of the builtin copy where a row of the call's own, of elements of two cells, is moved up by one place behind a place i ('copy(out[i+1:], out[i:])'). No condition beyond the row's. -/
import Derived.Laws.CopyRow
import Derived.Laws.IdiomCopy
import Derived.Test.YtdgpnmbmnnmdcaaWWords
import Derived.Test.YtdgpnmbmnnmdcaaWLast
import Derived.Test.YtdgpnmbmnnmdcaaWMore
namespace Go.Proofs.Ytdgpnmbmnnmdcaa.Copy
open Go.RowKit Go.Proofs.YtdgpnmbmnnmdcaaW.PrintWords Go.Proofs.YtdgpnmbmnnmdcaaW.PrintLast Go.Proofs.YtdgpnmbmnnmdcaaW.PrintMore
set_option linter.unusedVariables false
set_option linter.unusedSimpArgs false
/-- What stands behind place i goes up by one; the last element falls off; the element at i stands twice. -/
def shiftS {α : Type} (xs : List α) (i : Nat) : List α := xs.take (i + 1) ++ (xs.drop i).take (xs.length - (i + 1))
theorem shiftS_len {α : Type} (xs : List α) (i : Nat) (hi : i < xs.length) : (shiftS xs i).length = xs.length := by
  unfold shiftS
  rw [List.length_append, List.length_take, List.length_take, List.length_drop]
  omega
theorem shiftS_last {α : Type} (xs : List α) (i : Nat) (hi : i + 1 = xs.length) : shiftS xs i = xs := by
  unfold shiftS
  rw [hi, List.take_length, Nat.sub_self, List.take_zero, List.append_nil]
theorem shiftS_get {α : Type} (xs : List α) (i j : Nat) (hi : i < xs.length) : (shiftS xs i)[j]? = if j < i + 1 then xs[j]? else if j < xs.length then xs[j - 1]? else none := by
  unfold shiftS
  rw [List.getElem?_append, List.length_take]
  have e : min (i + 1) xs.length = i + 1 := by omega
  rw [e]
  by_cases c : j < i + 1
  · rw [if_pos c, if_pos c, List.getElem?_take_of_lt c]
  · rw [if_neg c, if_neg c]
    by_cases q : j < xs.length
    · rw [if_pos q, List.getElem?_take_of_lt (by omega), List.getElem?_drop]
      congr 1
      omega
    · rw [if_neg q, List.getElem?_eq_none (by rw [List.length_take, List.length_drop]; omega)]
theorem Reps2_shift {α : Type} {R : α → List Value → Prop} {xs : List α} {inner : List Value} (h : Reps R 2 xs inner) (i : Nat) (hi : i < xs.length) : Reps R 2 (shiftS xs i) (inner.take ((i + 1) * 2) ++ (inner.drop (i * 2)).take ((xs.length - (i + 1)) * 2)) := by
  have hl := h.1
  refine ⟨?_, fun j p hp => ?_⟩
  · rw [shiftS_len xs i hi, List.length_append, List.length_take, List.length_take, List.length_drop]
    omega
  · rw [shiftS_get xs i j hi] at hp
    by_cases c : j < i + 1
    · rw [if_pos c] at hp
      have := h.2 j p hp
      have e : ((inner.take ((i + 1) * 2) ++ (inner.drop (i * 2)).take ((xs.length - (i + 1)) * 2)).drop (j * 2)).take 2 = (inner.drop (j * 2)).take 2 := by
        apply List.ext_getElem?
        intro q
        rcases Nat.lt_or_ge q 2 with hq | hq
        · rw [List.getElem?_take_of_lt hq, List.getElem?_take_of_lt hq, List.getElem?_drop, List.getElem?_drop, List.getElem?_append_left (by rw [List.length_take]; omega), List.getElem?_take_of_lt (by omega)]
        · rw [List.getElem?_eq_none (by rw [List.length_take]; omega), List.getElem?_eq_none (by rw [List.length_take]; omega)]
      rw [e]
      exact this
    · rw [if_neg c] at hp
      by_cases q : j < xs.length
      · rw [if_pos q] at hp
        have := h.2 (j - 1) p hp
        have e : ((inner.take ((i + 1) * 2) ++ (inner.drop (i * 2)).take ((xs.length - (i + 1)) * 2)).drop (j * 2)).take 2 = (inner.drop ((j - 1) * 2)).take 2 := by
          apply List.ext_getElem?
          intro m
          rcases Nat.lt_or_ge m 2 with hm | hm
          · rw [List.getElem?_take_of_lt hm, List.getElem?_take_of_lt hm, List.getElem?_drop, List.getElem?_drop, List.getElem?_append_right (by rw [List.length_take]; omega), List.length_take, List.getElem?_take_of_lt (by omega), List.getElem?_drop]
            congr 1
            omega
          · rw [List.getElem?_eq_none (by rw [List.length_take]; omega), List.getElem?_eq_none (by rw [List.length_take]; omega)]
        rw [e]
        exact this
      · rw [if_neg q] at hp
        cases hp
theorem run_copy2 {P : Program} {w w' : World} (t ty elt : TypeId) (aA aB : Addr) (nA nB cA cB : Nat) (cs : List Value) (hu : P.underlying t = some (.slice elt)) (hs : (P.info? elt).map (·.size) = some 2) (hn : Nat.min nB nA = nA) (hc : cs.length = nA * 2)
    (hsrc : ∀ j v, cs[j]? = some v → w.cell? (aB.add j) = some v) (hst : (storeCells aA cs).run P w = .ok () w') :
    (Builtin.copy_ #[t, t] ty #[.slice (some aA) nA cA, .slice (some aB) nB cB]).run P w = .ok (goInt nA) w' := by
  have hl := run_loadCells_list (P := P) w aB cs hsrc
  rw [hc] at hl
  cases hq : P.info? elt with
  | none => simp [hq] at hs
  | some i =>
    have hi : i.size = 2 := by simpa [hq] using hs
    simp [Builtin.copy_, run_underlying hu, Builtin.lenOf, Builtin.firstCells, sizeOf, typeInfo, hq, hi, hn, hl, hst]
theorem copy_shift_op {α : Type} (d : Kd α) (h2 : d.sz = 2) (hflat : ∀ {w w1 : World} {b : Nat} {ok ok' : Nat → Prop} {x : α} {cs : List Value}, d.M w b ok x cs → d.M w1 b ok' x cs)
    {P : Program} {o : Oper} {a : Act} {Q : Exit → Act → World → Prop} {K : Act → World → Prop} {w0 W : World} {base e g cap : Nat} {ok : Nat → Prop} (x y : Operand) (t elt : TypeId)
    (ho : o.op = .call { callee := .builtin .copy, args := #[x, y], argTypes := #[t, t] }) (ht : P.underlying t = some (.slice elt)) (hsz : (P.info? elt).map (·.size) = some 2)
    (xs : List α) (i : Nat) (hi : i < xs.length) (A B : Option Addr) (nA nB cA cB : Nat) (hx : a.eval x = .slice A nA cA) (hy : a.eval y = .slice B nB cB) (hnA : nA = xs.length - (i + 1)) (hnB : nB = xs.length - i)
    (hA : A = if cap = i + 1 then some ⟨g, 0, none⟩ else (some ⟨g, 0, none⟩ : Option Addr).map (·.add ((i + 1) * 2))) (hB : B = if cap = i then some ⟨g, 0, none⟩ else (some ⟨g, 0, none⟩ : Option Addr).map (·.add (i * 2)))
    (HO : d.R e W base ok (.slice (some ⟨g, 0, none⟩) xs.length cap) xs) (HB : Below base w0 W)
    (h : ∀ w1, d.R e w1 base ok (.slice (some ⟨g, 0, none⟩) xs.length cap) (shiftS xs i) → Below base w0 w1 → W.grownBy w1 (some g) → K (a.put o.dst (goInt nA)) w1) : Oper.wp P o a W K Q := by
  obtain ⟨hok, inner, ⟨hlen, hv⟩, hr⟩ := HO
  rcases hv with ⟨hv, _⟩ | ⟨g', cap', cur, hv, hg, hh, hnc, hcm, hcs, htk⟩
  · cases hv
  obtain ⟨hg', -, hc'⟩ : g = g' ∧ xs.length = xs.length ∧ cap = cap' := by
    injection hv with e1 e2 e3
    injection e1 with e1
    injection e1 with e1
    exact ⟨e1, rfl, e3⟩
  subst hg' hc'
  rw [h2] at hlen hcs htk hr
  have hmin : Nat.min nB nA = nA := by
    rw [hnA, hnB]
    exact Nat.min_eq_right (by omega)
  have eB : B = some ⟨g, i * 2, none⟩ := by
    rw [hB, if_neg (by omega)]
    simp [Addr.add]
    omega
  have hcur : ∀ q, q < xs.length * 2 → cur[q]? = inner[q]? := by
    intro q hq
    rw [← htk, List.getElem?_take_of_lt hq, Array.getElem?_toList]
  have fin : ∀ (w1 : World) (cs : List Value), (storeCells ((A.getD ⟨0, 0, none⟩)) cs).run P W = .ok () w1 → cs = (inner.drop (i * 2)).take (nA * 2) → (∃ aA, A = some aA) → d.R e w1 base ok (.slice (some ⟨g, 0, none⟩) xs.length cap) (shiftS xs i) → Below base w0 w1 → W.grownBy w1 (some g) → Oper.wp P o a W K Q := by
    intro w1 cs hst hcs' ⟨aA, eA⟩ hR hb hgr
    have hc : cs.length = nA * 2 := by
      rw [hcs', List.length_take, List.length_drop]
      omega
    rw [eA] at hst
    have hrun := run_copy2 (P := P) (w := W) (w' := w1) t o.type elt aA ⟨g, i * 2, none⟩ nA nB cA cB cs ht hsz hmin hc (fun j v hj => by
      have hjl : j < cs.length := (List.getElem?_eq_some_iff.1 hj).1
      have e1 : (⟨g, i * 2, none⟩ : Addr).add j = ⟨g, i * 2 + j, none⟩ := by simp [Addr.add]
      rw [e1, blk_cell hh, hcur _ (by omega), ← hj, hcs', List.getElem?_take_of_lt (by omega), List.getElem?_drop]) hst
    unfold Oper.wp
    rw [eA] at hx
    rw [eB] at hy
    simp [execOp, ho, resolve, invoke, builtin, hx, hy, hrun, Result.andThen]
    exact h w1 hR hb hgr
  by_cases c : i + 1 = xs.length
  · have n0 : nA = 0 := by omega
    refine fin W [] (by simp [storeCells]) (by rw [n0, Nat.zero_mul, List.take_zero]) ?_ ?_ HB ⟨rfl, rfl, rfl, Nat.le_refl _, fun _ _ _ => rfl⟩
    · rw [hA]
      split
      · exact ⟨_, rfl⟩
      · exact ⟨_, rfl⟩
    · rw [shiftS_last xs i c]
      exact ⟨hok, inner, ⟨by rw [h2]; exact hlen, .inr ⟨g, cap, cur, rfl, hg, hh, hnc, hcm, by rw [h2]; exact hcs, by rw [h2]; exact htk⟩⟩, by rw [h2]; exact hr⟩
  · have eA : A = some ⟨g, (i + 1) * 2, none⟩ := by
      rw [hA, if_neg (by omega)]
      simp [Addr.add]
    have hst := run_storeCells_at P g ((i + 1) * 2) e ((inner.drop (i * 2)).take (nA * 2)) 0 cur W hh (by rw [List.length_take, List.length_drop]; omega) (fun v hv => by
      obtain ⟨j, hj, hjv⟩ := List.getElem_of_mem (List.mem_of_mem_drop (List.mem_of_mem_take hv))
      have hp : j / 2 < xs.length := by omega
      have hK := d.K_one (d.K_of_M (hr.2 (j / 2) xs[j / 2] (List.getElem?_eq_getElem hp)))
      refine hK v ?_
      have : ((inner.drop (j / 2 * 2)).take 2)[j % 2]? = some v := by
        rw [List.getElem?_take_of_lt (by omega), List.getElem?_drop, show j / 2 * 2 + j % 2 = j by omega, List.getElem?_eq_getElem hj, hjv]
      exact List.mem_of_getElem? this)
    refine fin _ _ (by rw [eA]; exact hst) rfl ⟨_, eA⟩ ?_ ?_ ?_
    · refine ⟨hok, inner.take ((i + 1) * 2) ++ (inner.drop (i * 2)).take ((xs.length - (i + 1)) * 2), ⟨?_, .inr ⟨g, cap, _, by rw [shiftS_len xs i hi], hg, setRow_heap W g cur _ e _ hh, by rw [shiftS_len xs i hi]; exact hnc, hcm, ?_, ?_⟩⟩, ?_⟩
      · rw [h2, shiftS_len xs i hi, List.length_append, List.length_take, List.length_take, List.length_drop]
        omega
      · rw [h2]
        simp only [List.size_toArray, List.length_append, List.length_take, List.length_drop, Array.length_toList]
        omega
      · rw [h2, shiftS_len xs i hi]
        apply List.ext_getElem?
        intro q
        rcases Nat.lt_or_ge q (xs.length * 2) with hq | hq
        · have la : (cur.toList.take ((i + 1) * 2)).length = (i + 1) * 2 := by
            rw [List.length_take, Array.length_toList]
            omega
          have lb : (inner.take ((i + 1) * 2)).length = (i + 1) * 2 := by
            rw [List.length_take]
            omega
          have lc : ((inner.drop (i * 2)).take ((xs.length - (i + 1)) * 2)).length = (xs.length - (i + 1)) * 2 := by
            rw [List.length_take, List.length_drop]
            omega
          rw [List.getElem?_take_of_lt hq, Nat.add_zero, List.append_assoc, hnA]
          rcases Nat.lt_or_ge q ((i + 1) * 2) with hq1 | hq1
          · rw [List.getElem?_append_left (by rw [la]; exact hq1), List.getElem?_append_left (by rw [lb]; exact hq1), List.getElem?_take_of_lt hq1, List.getElem?_take_of_lt hq1, Array.getElem?_toList, hcur q hq]
          · rw [List.getElem?_append_right (by rw [la]; exact hq1), la, List.getElem?_append_left (by rw [lc]; omega), List.getElem?_append_right (by rw [lb]; exact hq1), lb]
        · rw [List.getElem?_eq_none (by rw [List.length_take]; omega), List.getElem?_eq_none (by rw [List.length_append, List.length_take, List.length_take, List.length_drop]; omega)]
      · rw [h2]
        exact (Reps2_shift hr i hi).imp_ (fun _ _ hp => hflat hp)
    · exact HB.trans ⟨rfl, rfl, rfl, by simp [World.setRow], fun k hk => setRow_other W g k _ (by omega)⟩
    · exact ⟨rfl, rfl, rfl, by simp [World.setRow], fun k _ hk => setRow_other W g k _ (fun z => hk (by rw [z]))⟩
theorem copy_shift {α : Type} (d : Kd α) (h2 : d.sz = 2) (hflat : ∀ {w w1 : World} {b : Nat} {ok ok' : Nat → Prop} {x : α} {cs : List Value}, d.M w b ok x cs → d.M w1 b ok' x cs)
    {P : Program} {ops : Array Oper} {rest : List Oper} {o : Oper} {a : Act} {Q : Exit → Act → World → Prop} {w0 W : World} {base e g cap : Nat} {ok : Nat → Prop} (hgd : o.guard = none) (x y : Operand) (t elt : TypeId)
    (ho : o.op = .call { callee := .builtin .copy, args := #[x, y], argTypes := #[t, t] }) (ht : P.underlying t = some (.slice elt)) (hsz : (P.info? elt).map (·.size) = some 2)
    (xs : List α) (i : Nat) (hi : i < xs.length) (A B : Option Addr) (nA nB cA cB : Nat) (hx : a.eval x = .slice A nA cA) (hy : a.eval y = .slice B nB cB) (hnA : nA = xs.length - (i + 1)) (hnB : nB = xs.length - i)
    (hA : A = if cap = i + 1 then some ⟨g, 0, none⟩ else (some ⟨g, 0, none⟩ : Option Addr).map (·.add ((i + 1) * 2))) (hB : B = if cap = i then some ⟨g, 0, none⟩ else (some ⟨g, 0, none⟩ : Option Addr).map (·.add (i * 2)))
    (HO : d.R e W base ok (.slice (some ⟨g, 0, none⟩) xs.length cap) xs) (HB : Below base w0 W)
    (h : ∀ w1, d.R e w1 base ok (.slice (some ⟨g, 0, none⟩) xs.length cap) (shiftS xs i) → Below base w0 w1 → W.grownBy w1 (some g) → wpList P ops Q rest (a.put o.dst (goInt nA)) w1) : wpList P ops Q (o :: rest) a W :=
  wpList_plain hgd fun K hK => copy_shift_op d h2 hflat x y t elt ho ht hsz xs i hi A B nA nB cA cB hx hy hnA hnB hA hB HO HB (fun w1 h1 h2 h3 => hK _ _ (h w1 h1 h2 h3))
theorem copy_shift_step {α : Type} (d : Kd α) (h2 : d.sz = 2) (hflat : ∀ {w w1 : World} {b : Nat} {ok ok' : Nat → Prop} {x : α} {cs : List Value}, d.M w b ok x cs → d.M w1 b ok' x cs)
    {P : Program} {ops : Array Oper} {o : Oper} {a : Act} {Q : Exit → Act → World → Prop} {K : Act → World → Prop} {w0 W : World} {base e g cap : Nat} {ok : Nat → Prop} (hw : Region.wanted o (yielded ops a.tmps) = true) (x y : Operand) (t elt : TypeId)
    (ho : o.op = .call { callee := .builtin .copy, args := #[x, y], argTypes := #[t, t] }) (ht : P.underlying t = some (.slice elt)) (hsz : (P.info? elt).map (·.size) = some 2)
    (xs : List α) (i : Nat) (hi : i < xs.length) (A B : Option Addr) (nA nB cA cB : Nat) (hx : a.eval x = .slice A nA cA) (hy : a.eval y = .slice B nB cB) (hnA : nA = xs.length - (i + 1)) (hnB : nB = xs.length - i)
    (hA : A = if cap = i + 1 then some ⟨g, 0, none⟩ else (some ⟨g, 0, none⟩ : Option Addr).map (·.add ((i + 1) * 2))) (hB : B = if cap = i then some ⟨g, 0, none⟩ else (some ⟨g, 0, none⟩ : Option Addr).map (·.add (i * 2)))
    (HO : d.R e W base ok (.slice (some ⟨g, 0, none⟩) xs.length cap) xs) (HB : Below base w0 W)
    (h : ∀ w1, d.R e w1 base ok (.slice (some ⟨g, 0, none⟩) xs.length cap) (shiftS xs i) → Below base w0 w1 → W.grownBy w1 (some g) → K (a.put o.dst (goInt nA)) w1) : if Region.wanted o (yielded ops a.tmps) = true then Oper.wp P o a W K Q else K (a.put o.dst undef) W := by
  rw [if_pos hw]
  exact copy_shift_op d h2 hflat x y t elt ho ht hsz xs i hi A B nA nB cA cB hx hy hnA hnB hA hB HO HB h
end Go.Proofs.Ytdgpnmbmnnmdcaa.Copy
