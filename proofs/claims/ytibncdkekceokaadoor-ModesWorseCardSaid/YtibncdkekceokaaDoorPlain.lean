/- sennitlaw19.Plain: the chapters' example. -/
import Derived.Test.YtibncdkekceokaaDoorNetOf
namespace Go.Proofs.YtibncdkekceokaaDoor
open Go.RowKit

set_option maxHeartbeats 1000000 in
theorem plain_any (w : World) :
    Calls Tryd.prog 66 #[] w fun e w' => ∃ pa sa ba, e = .returned (.agg #[.int .i64 4, .slice pa 2 2, .slice sa 2 2, .int .i64 120, .slice ba 4 4, .slice none 0 0, .int .i64 3, .int .i64 3, .int .i64 3]) ∧
      CfgIn w' 4 120 3 3 3 pa sa ba none 2 2 2 2 4 4 0 0 [0, 2] [0, 1] [0, 0, 0, 0] [] ∧ Below w.heap.size w w' := by
  go_enter Tryd.func66, Tryd.ntmps66
  go_wp2
  generalize hw1 : w.alloc (.cells #[.int .i64 4, .slice (some ⟨w.heap.size + 1, 0, none⟩) 2 2, .slice (some ⟨w.heap.size + 1 + 1, 0, none⟩) 2 2, .int .i64 120, .slice (some ⟨w.heap.size + 1 + 1 + 1, 0, none⟩) 4 4, .slice none 0 0, .int .i64 3, .int .i64 3, .int .i64 3] 25) = w1
  have hs1 : w1.heap.size = w.heap.size + 1 := by rw [← hw1]; simp
  have hb1 : Below w.heap.size w w1 := by rw [← hw1]; exact (Below.refl w.heap.size w).alloc (Nat.le_refl _) _
  have hg1 : w1.heap[w.heap.size]? = some (.cells #[.int .i64 4, .slice (some ⟨w.heap.size + 1, 0, none⟩) 2 2, .slice (some ⟨w.heap.size + 1 + 1, 0, none⟩) 2 2, .int .i64 120, .slice (some ⟨w.heap.size + 1 + 1 + 1, 0, none⟩) 4 4, .slice none 0 0, .int .i64 3, .int .i64 3, .int .i64 3] 25 (0, 0)) := by rw [← hw1]; exact heap_new _ _ _ rfl
  clear hw1
  have rp : Reads (w1.alloc (.cells #[.int .i64 0, .int .i64 2] 3)) eI (some ⟨w.heap.size + 1, 0, none⟩) 2 [0, 2] := reads_new _ _ _ _ hs1.symm [0, 2] rfl rfl (by omega)
  generalize hw2 : w1.alloc (.cells #[.int .i64 0, .int .i64 2] 3) = w2 at rp ⊢
  have hs2 : w2.heap.size = w.heap.size + 2 := by rw [← hw2]; simp [hs1]
  have hb2 : Below w1.heap.size w1 w2 := by rw [← hw2]; exact (Below.refl w1.heap.size w1).alloc (Nat.le_refl _) _
  clear hw2
  have rs : Reads (w2.alloc (.cells #[.int .i64 0, .int .i64 1] 3)) eI (some ⟨w.heap.size + 1 + 1, 0, none⟩) 2 [0, 1] := reads_new _ _ _ _ (by rw [hs2]) [0, 1] rfl rfl (by omega)
  generalize hw3 : w2.alloc (.cells #[.int .i64 0, .int .i64 1] 3) = w3 at rs ⊢
  have hs3 : w3.heap.size = w.heap.size + 3 := by rw [← hw3]; simp [hs2]
  have hb3 : Below w2.heap.size w2 w3 := by rw [← hw3]; exact (Below.refl w2.heap.size w2).alloc (Nat.le_refl _) _
  clear hw3
  have rb : Reads (w3.alloc (.cells #[.int .i64 0, .int .i64 0, .int .i64 0, .int .i64 0] 3)) eI (some ⟨w.heap.size + 1 + 1 + 1, 0, none⟩) 4 [0, 0, 0, 0] := reads_new _ _ _ _ (by rw [hs3]) [0, 0, 0, 0] rfl rfl (by omega)
  generalize hw4 : w3.alloc (.cells #[.int .i64 0, .int .i64 0, .int .i64 0, .int .i64 0] 3) = w4 at rb ⊢
  have hb4 : Below w3.heap.size w3 w4 := by rw [← hw4]; exact (Below.refl w3.heap.size w3).alloc (Nat.le_refl _) _
  clear hw4
  have hb24 : Below w2.heap.size w2 w4 := hb3.trans (hb4.mono (by omega))
  have hb14 : Below w1.heap.size w1 w4 := hb2.trans (hb24.mono (by omega))
  have hg4 := (hb14.block w.heap.size (by omega)).trans hg1
  have q0 := heap_cell hg4 0
  have q1 := heap_cell hg4 1
  have q2 := heap_cell hg4 2
  have q3 := heap_cell hg4 3
  have q4 := heap_cell hg4 4
  have q5 := heap_cell hg4 5
  have q6 := heap_cell hg4 6
  have q7 := heap_cell hg4 7
  have q8 := heap_cell hg4 8
  simp only [List.getElem?_toArray, List.getElem?_cons_zero, List.getElem?_cons_succ] at q0 q1 q2 q3 q4 q5 q6 q7 q8
  refine bodyPost_ret (v := .agg #[.int .i64 4, .slice (some ⟨w.heap.size + 1, 0, none⟩) 2 2, .slice (some ⟨w.heap.size + 1 + 1, 0, none⟩) 2 2, .int .i64 120, .slice (some ⟨w.heap.size + 1 + 1 + 1, 0, none⟩) 4 4, .slice none 0 0, .int .i64 3, .int .i64 3, .int .i64 3]) (by simp [results, Tryd.results66, go_sem, q0, q1, q2, q3, q4, q5, q6, q7, q8]) rfl ?_
  have ok : ∀ (b n : Nat), SliceOK (some ⟨b, 0, none⟩) n n := fun b n => ⟨Nat.le_refl _, (fun h => by cases h), fun _ h => by cases h; exact ⟨b, 0, rfl⟩⟩
  exact ⟨_, _, _, rfl, ⟨ok _ _, ok _ _, ok _ _, ⟨Nat.le_refl _, fun _ => ⟨rfl, rfl⟩, fun _ h => by cases h⟩, rp.below hb24, rs.below hb4, rb, ⟨rfl, by omega, fun i hi => by omega⟩⟩, hb1.trans (hb14.mono (by omega))⟩
end Go.Proofs.YtibncdkekceokaaDoor
