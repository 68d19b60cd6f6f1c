/- configs.single: is none of some numbers twice there? -/
import Derived.Test.YtibncdkekceokaaDoorSorted
import Derived.Test.YtibncdkekceokaaDoorCompact
namespace Go.Proofs.YtibncdkekceokaaDoor
open Go.RowKit Go.Shelf Go.Sort

theorem collect_any (Bs : Nat) (sv : Value) (zs : List Int) (hlen : zs.length ≤ 1000000) (w : World) (hBs : Bs < w.heap.size) (hc0 : w.cell? ⟨Bs, 0, none⟩ = some sv) (hI : IntsAt w.heap.size w sv zs) :
    Calls Tryd.prog 135 #[.func (.func 137) #[] #[.pointer (some ⟨Bs, 0, none⟩)]] w fun e W' => ∃ v, e = .returned v ∧ W'.ownsRow w.heap.size 3 1 v zs.length (zs.map (Value.int .i64)) ∧ (v = .slice none 0 0 ↔ zs = []) ∧ Below w.heap.size w W' := by
  have hA := (callsIn_wide (n := 6)).1 (appendSeq_in Fence.wide 6 trivial trivial rfl (by omega) Bs sv zs hlen w hBs hc0 hI)
  have HA := Lib.hid hA
  clear hA hc0 hI
  go_enter Tryd.func135, Tryd.ntmps135
  go_wp2_with fail
  refine HA.out.mono ?_
  rintro e W' ⟨v, rfl, ho, hn, hb⟩
  have HN := Lib.hid hn
  clear hn
  go_wp2
  go_ret
  exact ⟨v, rfl, ho, HN.out, hb⟩

/-- slices.Sorted of slices.Values' iterator, of a list that is not empty. -/
theorem sorted_any (Bs : Nat) (sv : Value) (zs : List Int) (hlen : zs.length ≤ 1000000) (h0 : 0 < zs.length) (w : World) (hBs : Bs < w.heap.size) (hc0 : w.cell? ⟨Bs, 0, none⟩ = some sv) (hI : IntsAt w.heap.size w sv zs) :
    Calls Tryd.prog 125 #[.func (.func 137) #[] #[.pointer (some ⟨Bs, 0, none⟩)]] w fun e W' => ∃ g cap, e = .returned (.slice (some ⟨g, 0, none⟩) zs.length cap) ∧ W'.ownsRow w.heap.size 3 1 (.slice (some ⟨g, 0, none⟩) zs.length cap) zs.length ((zs.mergeSort fun x y => decide (x ≤ y)).map (Value.int .i64)) ∧ Below w.heap.size w W' := by
  go_enter Tryd.func125, Tryd.ntmps125
  go_wp2_with fail
  refine (collect_any Bs sv zs hlen w hBs hc0 hI).mono ?_
  rintro e W ⟨v, rfl, hrow, hnil, hb⟩
  rcases hrow.2 with ⟨rfl, hz⟩ | ⟨gb, cap, cur, rfl, hbase, hgb, r1, r2, r3, r4⟩
  · omega
  · have hH : Holds (Value.int .i64) W gb 0 zs.toArray := holds_of_block_i hgb (by simpa using r4)
    have hgl : gb < W.heap.size := (Array.getElem?_eq_some_iff.1 hgb).1
    have hsz : zs.length < 4611686018427387904 := by omega
    have cS := Lib.hid (Tryd.slices_Sort_int gb 0 cap zs W hH hgl hsz)
    have R := Lib.hid (⟨hbase, hgb, r1, r2, r3⟩ : w.heap.size ≤ gb ∧ W.heap[gb]? = some (.cells cur 3 (0, 0)) ∧ zs.length ≤ cap ∧ cap ≤ maxLen ∧ cur.size = cap * 1)
    clear hnil hrow hgb r1 r2 r3 r4 hH hc0 hI
    go_wp2_with fail
    refine cS.out.mono ?_
    rintro e w' ⟨rfl, nn, os, rfl⟩
    go_wp2
    go_ret
    obtain ⟨hbase, hgb, r1, r2, r3⟩ := R.out
    exact ⟨gb, cap, rfl, ownsRow_sorted_i (by simp) hbase hgb r1 r2 r3, hb.grown (grownBy_sorted_i _) hb.size (fun j hj => by cases hj; exact hbase)⟩

theorem values_any (a : Option Addr) (n cap : Nat) (w : World) :
    Calls Tryd.prog 126 #[.slice a n cap] w fun e w' => e = .returned (.func (.func 137) #[] #[.pointer (some ⟨w.heap.size, 0, none⟩)]) ∧ w.alloc (.cells #[.slice a n cap] 22) = w' := by
  go_enter Tryd.func126, Tryd.ntmps126
  go_wp2
  go_ret
  exact ⟨rfl, rfl⟩

def singleB (zs : List Int) : Bool := decide zs.Nodup
set_option maxHeartbeats 1000000 in
theorem single_any (a : Option Addr) (n cap : Nat) (zs : List Int) (hlen : zs.length ≤ 1000000) (h0 : 0 < zs.length) (w : World) (hI : IntsAt w.heap.size w (.slice a n cap) zs) :
    Calls Tryd.prog 102 #[.slice a n cap] w fun e w' => e = .returned (.bool (singleB zs)) ∧ Below w.heap.size w w' := by
  have hb := (Below.refl w.heap.size w).alloc (Nat.le_refl _) (.cells #[.slice a n cap] 22)
  have hI1 : IntsAt (w.alloc (.cells #[.slice a n cap] 22)).heap.size (w.alloc (.cells #[.slice a n cap] 22)) (.slice a n cap) zs := by
    rcases hI.below hb with h | ⟨b, off, c, h1, h2, h3⟩
    · exact .inl h
    · exact .inr ⟨b, off, c, h1, by simp; omega, h3⟩
  have HS := Lib.hid (sorted_any w.heap.size (.slice a n cap) zs hlen h0 _ (by simp) (by simp [go_sem]) hI1)
  clear hI hI1
  go_enter Tryd.func102, Tryd.ntmps102
  go_wp2_with (go_at_call 126; refine (values_any _ _ _ _).mono ?_; rintro e w' ⟨rfl, rfl⟩)
  refine HS.out.mono ?_
  rintro e W ⟨g, c, rfl, hrow, hb1⟩
  simp only [World.size_alloc] at hb1 hrow
  rcases hrow.2 with ⟨hv, _⟩ | ⟨g', cap', cur, hv, hbase, hgb, r1, r2, r3, r4⟩
  · simp at hv
  · simp only [Value.slice.injEq, Option.some.injEq, Addr.mk.injEq, true_and, and_true] at hv
    obtain ⟨rfl, rfl⟩ := hv
    have hl : (zs.mergeSort fun x y => decide (x ≤ y)).length = zs.length := List.length_mergeSort ..
    have hH : Holds (Value.int .i64) W g 0 (zs.mergeSort fun x y => decide (x ≤ y)).toArray := holds_of_block_i hgb (by rw [hl]; simpa using r4)
    have cC := Tryd.slices_Compact_int g 0 c (zs.mergeSort fun x y => decide (x ≤ y)) W hH (by omega) (by omega)
    rw [hl] at cC
    have CC := Lib.hid cC
    have HB := Lib.hid (⟨hb, hb1, hbase⟩ : Below w.heap.size w _ ∧ Below (w.heap.size + 1) _ W ∧ w.heap.size + 1 ≤ g)
    have HE := Lib.hid (compact_sorted_iff zs)
    clear hl hH cC hrow hgb r1 r2 r3 r4 hb hb1 hbase
    go_wp2_with fail
    refine CC.out.mono ?_
    rintro e w' ⟨rfl, q, rfl⟩
    go_wp2
    go_ret
    obtain ⟨hb, hb1, hbase⟩ := HB.out
    refine ⟨ret_bool ?_, ?_⟩
    · rw [Bool.eq_iff_iff]
      simp only [singleB, decide_eq_true_eq, ← HE.out]
      simp
      omega
    · have hg := grownBy_sorted_i (w := W) (g := g) (n := q) (os := #[]) (Lib.compact (zs.mergeSort fun x y => decide (x ≤ y)) ++ List.replicate (zs.length - (Lib.compact (zs.mergeSort fun x y => decide (x ≤ y))).length) 0).toArray
      rw [grow_empty] at hg
      exact (hb.trans (hb1.mono (by omega))).grown hg (by have := hb1.size; simp at this; omega) (fun k hk => by cases hk; omega)
end Go.Proofs.YtibncdkekceokaaDoor
