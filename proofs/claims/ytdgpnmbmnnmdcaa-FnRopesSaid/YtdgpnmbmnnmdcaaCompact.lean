/- The contract of slices.Compact at []int, in the print's own form: a row of the call's own comes in and goes out compacted. Out of the shelf's contract (Shelf); no condition. -/
import Derived.Test.YtdgpnmbmnnmdcaaShelf
import Derived.Test.YtdgpnmbmnnmdcaaWWords
import Derived.Test.YtdgpnmbmnnmdcaaWLast
import Derived.Test.YtdgpnmbmnnmdcaaWMore
import Derived.Test.YtdgpnmbmnnmdcaaWKept
namespace Go.Proofs.Ytdgpnmbmnnmdcaa.Compact
open Go.RowKit Go.Proofs.YtdgpnmbmnnmdcaaW.PrintWords Go.Proofs.YtdgpnmbmnnmdcaaW.PrintLast Go.Proofs.YtdgpnmbmnnmdcaaW.PrintMore
set_option linter.unusedVariables false
set_option linter.unusedSimpArgs false
theorem compactUpTo_le (d : Array Int) (m : Nat) : (Lib.compactUpTo d m).length ≤ m := by
  unfold Lib.compactUpTo
  rw [List.length_map]
  exact Nat.le_trans (List.length_filter_le _ _) (by simp)
theorem compact_le (l : List Int) : (Lib.compact l).length ≤ l.length := compactUpTo_le _ _
theorem calls (P0_ : Nat → Prop) (u : Value) (l r : List Int) (w0 w : World) (hB : Below w0.heap.size w0 w) (ho0 : Kd.R (Kd.int .i64) 3 w w0.heap.size P0_ u l) (h : some (Lib.compact l) = some r) :
    Calls Try.prog 92 #[u] w fun e w' => ∃ v0_ : Value, e = .returned (v0_) ∧ Kd.R (Kd.int .i64) 3 w' w0.heap.size (fun k_ => (P0_ k_ ∨ w.heap.size ≤ k_)) v0_ r ∧ Below w0.heap.size w0 w' ∧ Kept w w' (fun k_ => P0_ k_) := by
  obtain rfl := Option.some.inj h
  have hok := ho0.1
  have ho := Kd.own_of_R ho0
  obtain ⟨hlen, ⟨rfl, h0⟩ | ⟨g, cap, cur, rfl, hg, hh, hnc, hcm, hsz, htk⟩⟩ := ho
  · obtain rfl : l = [] := List.length_eq_zero_iff.mp h0
    refine (Try.slices_Compact_int_empty none 0 w).mono ?_
    rintro e w' ⟨rfl, rfl⟩
    exact ⟨_, rfl, Kd.R_nil _ _ _ _ _, hB, Kept.refl _ _⟩
  · rw [Nat.mul_one] at hsz htk
    have hat : ∀ j, (hj : j < l.length) → cur[j]? = some (.int .i64 l[j]) := by
      intro j hj
      have h1 : (cur.toList.take l.length)[j]? = some (.int .i64 l[j]) := by
        rw [htk]
        simp [encs, List.getElem?_eq_getElem hj]
      rw [List.getElem?_take_of_lt hj, Array.getElem?_toList] at h1
      exact h1
    have hH : Sort.Holds (Value.int .i64) w g 0 l.toArray := by
      intro j hj
      have hj' : j < l.length := by simpa using hj
      refine ⟨?_, blk_frozen hh _⟩
      rw [Nat.zero_add, blk_cell hh j, hat j hj']
      simp [hj']
    refine (Try.slices_Compact_int g 0 cap l w hH (by unfold maxLen at hcm; omega) hnc).mono ?_
    rintro e w' ⟨rfl, q, rfl⟩
    have hle := compact_le l
    generalize hc : Lib.compact l = c at hle ⊢
    have hgl : g < w.heap.size := blk_lt hh
    have other : ∀ k, k ≠ g → (Sort.putRow (Value.int .i64) (Sort.ahead w q) g 0 (c ++ List.replicate (l.length - c.length) 0).toArray).heap[k]? = w.heap[k]? := by
      intro k hk
      show ((Sort.ahead w q).heap.modify g _)[k]? = _
      rw [Array.getElem?_modify, if_neg (fun e => hk e.symm)]
      rfl
    have here : (Sort.putRow (Value.int .i64) (Sort.ahead w q) g 0 (c ++ List.replicate (l.length - c.length) 0).toArray).heap[g]? = some (.cells (Sort.putCells (Value.int .i64) 0 (c ++ List.replicate (l.length - c.length) 0).toArray cur) 3 (0, 0)) := by
      show ((Sort.ahead w q).heap.modify g _)[g]? = _
      rw [Array.getElem?_modify, if_pos rfl]
      show Option.map _ w.heap[g]? = _
      rw [hh]
      rfl
    refine ⟨_, rfl, Kd.R_of_own ⟨by simp [encs], .inr ⟨g, cap, _, rfl, hg, here, by omega, hcm, by simp [Sort.putCells, hsz], ?_⟩⟩ (fun k hk => .inl (hok k hk)), ?_, ?_⟩
    · apply List.ext_getElem?
      intro j
      rw [Nat.mul_one]
      rcases Nat.lt_or_ge j c.length with hj | hj
      · have hjc : j < cur.size := by omega
        rw [List.getElem?_take_of_lt hj, Array.getElem?_toList, Sort.putCells, Array.getElem?_mapIdx, Array.getElem?_eq_getElem hjc]
        have hd : j < (c ++ List.replicate (l.length - c.length) 0).toArray.size := by simp; omega
        simp only [Option.map_some, Nat.zero_le, true_and, Nat.zero_add, Nat.sub_zero]
        rw [if_pos hd]
        simp [getElem!_def, List.getElem?_append_left hj, encs, hj]
      · rw [List.getElem?_eq_none (by simp; omega), List.getElem?_eq_none (by simp [encs]; omega)]
    · refine ⟨hB.os, hB.tape, hB.output, by rw [Sort.size_putRow]; exact hB.size, fun i hi => ?_⟩
      rw [other i (by omega)]
      exact hB.block i hi
    · refine ⟨by rw [Sort.size_putRow]; exact Nat.le_refl _, fun i hi hn => other i ?_⟩
      rintro rfl
      exact hn (hok _ rfl)
end Go.Proofs.Ytdgpnmbmnnmdcaa.Compact
