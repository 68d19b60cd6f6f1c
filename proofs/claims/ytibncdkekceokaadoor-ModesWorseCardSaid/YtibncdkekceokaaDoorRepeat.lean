/- slices.Repeat of one number: a new slice that holds it so many times. -/
import Derived.Test.YtibncdkekceokaaDoorBase
import Derived.Test.YtibncdkekceokaaDoorShelf
import Derived.Deep.OwnRows
import Derived.Laws.CopyOwn
import Derived.Deep.RegionLaw
namespace Go.Proofs.YtibncdkekceokaaDoor
open Go.RowKit Go.Shelf Go.Deep

theorem Tryd.infoR : (Tryd.prog.info? 3).map (fun i => (i.zero, i.size, i.bytes)) = some (some (.int .i64 0), 1, 8) := by kernel_rfl
theorem Tryd.sizeR : (Tryd.prog.info? 3).map (·.size) = some 1 := by kernel_rfl

/-- What the new slice's cells are when m are filled. -/
def filled (x : Int) (c m : Nat) : List Value := List.replicate m (eI x) ++ List.replicate (c - m) (.int .i64 0)

theorem made_filled (x : Int) (c : Nat) : madeCells #[.int .i64 0] c = (filled x c 0).toArray := by
  apply Array.ext'
  simp [toList_madeCells_one, filled]
theorem filled_splice (x : Int) (c m k : Nat) : splice (filled x c m) m (List.replicate k (eI x)) = filled x c (m + k) := by
  unfold splice filled
  rw [List.take_left' (by simp), List.length_replicate, List.drop_append, List.length_replicate]
  rw [List.drop_eq_nil_of_le (by simp), List.drop_replicate, ← List.append_assoc, List.replicate_append_replicate]
  simp
  omega
theorem filled_cell {w : World} {g c m : Nat} {x : Int} {e : TypeId} (h : w.heap[g]? = some (.cells (filled x c m).toArray e (0, 0))) (k : Nat) (hk : k ≤ m) : ∀ j v, (List.replicate k (eI x))[j]? = some v → w.cell? ((⟨g, 0, none⟩ : Addr).add j) = some v := by
  intro j v hv
  have e1 : (⟨g, 0, none⟩ : Addr).add j = ⟨g, j, none⟩ := by unfold Addr.add; split <;> simp_all
  have hj : j < k := by
    rcases Nat.lt_or_ge j k with h | h
    · exact h
    · rw [List.getElem?_eq_none (by simpa using h)] at hv; cases hv
  rw [e1, heap_cell h, ← hv]
  simp [filled, List.getElem?_append_left, hj, show j < m by omega]
theorem filled_length (x : Int) (c m : Nat) (h : m ≤ c) : (filled x c m).length = c := by simp [filled]; omega
theorem filled_all (x : Int) (c : Nat) : filled x c c = List.replicate c (eI x) := by simp [filled]

/-- A copy of k of the numbers to the place behind them. -/
theorem copy_filled (w0 W : World) (g m c dLen dCap sLen sCap gs : Nat) (x : Int) (k : Nat) (hg : W.heap[g]? = some (.cells (filled x c m).toArray 3 (0, 0))) (hk : k = min sLen dLen)
    (hs : ∀ j v, (List.replicate k (eI x))[j]? = some v → W.cell? ((⟨gs, 0, none⟩ : Addr).add j) = some v) (hc : m + k ≤ c) (hb : Below w0.heap.size w0 W) (hB : w0.heap.size ≤ g) :
    ∃ w1, (Builtin.copy_ #[22, 22] 3 #[.slice (some ⟨g, m, none⟩) dLen dCap, .slice (some ⟨gs, 0, none⟩) sLen sCap]).run Tryd.prog W = .ok (.int .i64 k) w1 ∧
      w1.heap[g]? = some (.cells (filled x c (m + k)).toArray 3 (0, 0)) ∧ Below w0.heap.size w0 w1 := by
  have hl := filled_length x c m (by omega)
  have hrun := run_copy_row (P := Tryd.prog) W 22 22 3 3 g m dLen dCap ⟨gs, 0, none⟩ sLen sCap (filled x c m).toArray 3 (List.replicate k (eI x)) Tryd.underlying22 Tryd.sizeR hg (by rw [List.length_replicate, hk]) hs (by simpa [hl] using hc) (fun v hv => by rw [List.eq_of_mem_replicate hv]; rfl)
  rw [List.length_replicate] at hrun
  refine ⟨_, hrun, ?_, below_setRow hb hB _⟩
  rw [setRow_heap _ _ _ _ _ _ hg, ← filled_splice]
  simp [splice]

set_option maxRecDepth 100000 in
set_option maxHeartbeats 1000000 in
theorem repeat_any (gx : Nat) (x : Int) (c : Nat) (w : World) (hx : w.cell? ⟨gx, 0, none⟩ = some (.int .i64 x)) (h1 : 1 ≤ c) (h2 : c ≤ 1000) :
    Calls Tryd.prog 69 #[.slice (some ⟨gx, 0, none⟩) 1 1, .int .i64 c] w fun e w' => e = .returned (.slice (some ⟨w.heap.size, 0, none⟩) c c) ∧
      w'.heap[w.heap.size]? = some (.cells (List.replicate c (eI x)).toArray 3 (0, 0)) ∧ w.heap.size + 1 ≤ w'.heap.size ∧ Below w.heap.size w w' := by
  have hm := Tryd.bits_Mul 1 c (by omega) (by omega) w
  have e1 : (1 * c) / 18446744073709551616 = 0 := by omega
  have e2 : (1 * c) % 18446744073709551616 = c := by omega
  rw [e1, e2] at hm
  have HM := Lib.hid (calls_flip hm)
  clear hm e1 e2
  have hmk := fun wx => run_make_row' (P := Tryd.prog) 22 3 (.int .i64 0) 8 Tryd.underlying22 Tryd.infoR rfl .i64 .i64 c (by omega) (by omega) wx
  go_enter Tryd.func69, Tryd.ntmps69
  go_wp2_with fail
  refine HM.out.mono ?_
  rintro e w' ⟨rfl, rfl⟩
  have hz0 : (w.alloc (.cells (madeCells #[.int .i64 0] c) 3)).heap[w.heap.size]? = some (.cells (filled x c 0).toArray 3 (0, 0)) := by rw [made_filled x]; exact heap_new _ _ _ rfl
  have hb0 := (Below.refl w.heap.size w).alloc (Nat.le_refl _) (.cells (madeCells #[.int .i64 0] c) 3)
  have hx1 : ∀ j v, (List.replicate 1 (eI x))[j]? = some v → (w.alloc (.cells (madeCells #[.int .i64 0] c) 3)).cell? ((⟨gx, 0, none⟩ : Addr).add j) = some v := by
    intro j v hv
    have hj : j = 0 := by
      rcases j with _ | j
      · rfl
      · simp at hv
    subst hj
    simp at hv
    subst hv
    have e1 : (⟨gx, 0, none⟩ : Addr).add 0 = ⟨gx, 0, none⟩ := by simp [Addr.add]
    rw [e1]
    exact (hb0.cell (World.block_lt_of_cell? w _ hx)).trans hx
  obtain ⟨w1, hrun, hz2, hb1⟩ := copy_filled w (w.alloc (.cells (madeCells #[.int .i64 0] c) 3)) w.heap.size 0 c c c 1 1 gx x 1 hz0 (by show 1 = min 1 c; omega) hx1 (by omega) hb0 (Nat.le_refl _)
  rw [Nat.zero_add] at hz2
  have hsz : w.heap.size < w1.heap.size := (Array.getElem?_eq_some_iff.1 hz2).1
  have HS := Lib.hid (⟨hz2, hsz, hb1⟩ : _ ∧ w.heap.size < w1.heap.size ∧ Below w.heap.size w w1)
  clear hz2 hb1 hz0 hb0 hx1 hx HM
  go_wp2
  clear hmk
  go_loopw [8] (fun i wr => ∃ m : Nat, 1 ≤ m ∧ m ≤ c ∧ i = .int .i64 m ∧ Hid (wr.heap[w.heap.size]? = some (.cells (filled x c m).toArray 3 (0, 0)) ∧ Below w.heap.size w wr)) (fun i _ => c - (intOf i).toNat)
  case atStart => exact ⟨1, by omega, by omega, by go_num, HS.out.1, HS.out.2.2⟩
  case round =>
    obtain ⟨m, hm1, hm2, rfl, hR⟩ := hrel
    by_cases hlt : m < c
    · have hz := hR.out.1
      have hb := hR.out.2
      obtain ⟨k, hk⟩ : ∃ k, k = min m (c - m) := ⟨_, rfl⟩
      have hk1 : 0 < k := by omega
      have hk2 : m + k ≤ c := by omega
      have hcm : ¬ c = m := by omega
      obtain ⟨w4, hrun4, hg4, hb4⟩ := copy_filled w wr.drew w.heap.size m c (c - m) (c - m) m c w.heap.size x k hz hk (filled_cell hz k (by omega)) hk2 hb.drew (Nat.le_refl _)
      have HX := Lib.hid (⟨hg4, hb4⟩ : _ ∧ Below w.heap.size w w4)
      clear hg4 hb4 hk hz hb hR
      go_wp2
      go_region
      go_wp2
      go_roundw
      case rel => exact ⟨m + k, by omega, by omega, by go_num, HX.out⟩
      case measure => simp [intOf]; omega
    · go_wp2
      go_ret
      have e : m = c := by omega
      subst e
      have hR2 := hR.out
      rw [filled_all] at hR2
      exact ⟨rfl, hR2.1, (Array.getElem?_eq_some_iff.1 hR2.1).1, hR2.2⟩
end Go.Proofs.YtibncdkekceokaaDoor
