/- What slices.Compact leaves of rising numbers is as long as they are just if no two are equal. Plain Lean. -/
import Derived.Lib.SlicesCompact
namespace Go.Proofs.YtibncdkekceokaaDoor

theorem pairwise_lt_of_adj (xs : List Int) (h : ∀ j (h : j + 1 < xs.length), xs[j] < xs[j + 1]) : xs.Pairwise (· < ·) := by
  rw [List.pairwise_iff_getElem]
  intro i j hi hj hij
  induction j with
  | zero => omega
  | succ j ih =>
    have h1 := h j hj
    by_cases e : i = j
    · subst e; exact h1
    · exact Int.lt_trans (ih (by omega) (by omega)) h1

theorem compact_length_iff (l : List Int) (hs : l.Pairwise (· ≤ ·)) : (Lib.compact l).length = l.length ↔ l.Nodup := by
  unfold Lib.compact Lib.compactUpTo
  rw [List.length_map]
  constructor
  · intro h
    have h2 : ((List.range l.length).filter (Lib.keeps l.toArray)).length = (List.range l.length).length := by rw [h, List.length_range]
    rw [List.length_filter_eq_length_iff] at h2
    have hlt : l.Pairwise (· < ·) := by
      apply pairwise_lt_of_adj
      intro j hj
      have hk := h2 (j + 1) (List.mem_range.2 hj)
      have hle := List.pairwise_iff_getElem.1 hs j (j + 1) (by omega) hj (by omega)
      simp only [Lib.keeps, decide_eq_true_eq, Nat.add_one_ne_zero, false_or, Nat.add_sub_cancel] at hk
      rw [getElem!_pos _ (j + 1) (by simpa using hj), getElem!_pos _ j (by simp; omega)] at hk
      simp only [List.getElem_toArray] at hk
      omega
    exact hlt.imp fun h => by omega
  · intro h
    have : ((List.range l.length).filter (Lib.keeps l.toArray)) = List.range l.length := by
      rw [List.filter_eq_self]
      intro j hj
      have hj' := List.mem_range.1 hj
      simp only [Lib.keeps, decide_eq_true_eq]
      by_cases e : j = 0
      · exact .inl e
      · refine .inr ?_
        rw [getElem!_pos _ j (by simpa using hj'), getElem!_pos _ (j - 1) (by simp; omega)]
        simp only [List.getElem_toArray]
        exact fun e2 => absurd e2.symm (List.pairwise_iff_getElem.1 h (j - 1) j (by omega) hj' (by omega))
    rw [this, List.length_range]

theorem rising_mergeSort (zs : List Int) : (zs.mergeSort fun x y => decide (x ≤ y)).Pairwise (· ≤ ·) := by
  have := List.pairwise_mergeSort (le := fun x y : Int => decide (x ≤ y)) (fun a b c h1 h2 => by simp at *; omega) (fun a b => by simp; omega) zs
  exact this.imp fun h => by simpa using h
theorem compact_sorted_iff (zs : List Int) : (Lib.compact (zs.mergeSort fun x y => decide (x ≤ y))).length = zs.length ↔ zs.Nodup := by
  rw [← (List.mergeSort_perm zs _).nodup_iff, ← compact_length_iff _ (rising_mergeSort zs), List.length_mergeSort]
end Go.Proofs.YtibncdkekceokaaDoor
