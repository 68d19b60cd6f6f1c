/- sennitlaw19.HostsVoid: the walk. -/
import Derived.Test.YtibncdkekceokaaDoorLives19
namespace Go.Proofs.YtibncdkekceokaaDoor
open Go.RowKit

def voidBoxV : Array Value := #[.pointer none, .int .i64 0, .bool false, .int .i64 0, .int .u8 0, .int .u8 0, .int .u32 0, .int .u32 0, .bool false, .int .i64 0, .int .u8 0, .int .u8 0, .int .u32 0, .int .u32 0, .bool false, .int .i64 0, .int .u8 0, .int .u8 0, .int .u32 0, .int .u32 0, .bool false, .int .i64 0, .int .u8 0, .int .u8 0, .int .u32 0, .int .u32 0, .bool false, .int .i64 0, .int .u8 0, .int .u8 0, .int .u32 0, .int .u32 0, .bool false, .int .i64 0, .int .u8 0, .int .u8 0, .int .u32 0, .int .u32 0, .bool false, .int .i64 0, .int .u8 0, .int .u8 0, .int .u32 0, .int .u32 0, .bool false, .int .i64 0, .int .u8 0, .int .u8 0, .int .u32 0, .int .u32 0]
theorem row_laterH {w w' : World} {B b : Nat} {o : Obj} (h : w.heap[b]? = some o) (hb : Below B w w') (hB : w.heap.size ≤ B) : w'.heap[b]? = some o := (hb.block _ (Nat.lt_of_lt_of_le (Array.getElem?_eq_some_iff.1 h).1 hB)).trans h
set_option maxRecDepth 100000 in
set_option maxHeartbeats 8000000 in
theorem hostsVoid_walk (xb : Bool) (xp xk xs xq xv xr : Int) (w : World) (hs : Signs w) :
    Calls Tryd.prog 18 #[.agg #[.bool xb, .int .i64 xp, .int .u8 xk, .int .u8 xs, .int .u32 xq, .int .u32 xv, .int .i64 xr]] w fun e w' => e = .returned (.bool true) ∧ Below w.heap.size w w' := by
  have hb0 : Below w.heap.size w ((((w.alloc (.cells #[.bool xb, .int .i64 xp, .int .u8 xk, .int .u8 xs, .int .u32 xq, .int .u32 xv, .int .i64 xr] 113)).alloc (.cells voidBoxV 122)).alloc (.cells voidV 56)).alloc (.cells #[.pointer none, .pointer (some ⟨w.heap.size + 1, 0, none⟩)] 106)) := ((((Below.refl w.heap.size w).alloc (Nat.le_refl _) _).alloc (by simp) _).alloc (by first | (simp; done) | (simp; omega)) _).alloc (by first | (simp; done) | (simp; omega)) _
  have hx : ((((w.alloc (.cells #[.bool xb, .int .i64 xp, .int .u8 xk, .int .u8 xs, .int .u32 xq, .int .u32 xv, .int .i64 xr] 113)).alloc (.cells voidBoxV 122)).alloc (.cells voidV 56)).alloc (.cells #[.pointer none, .pointer (some ⟨w.heap.size + 1, 0, none⟩)] 106)).heap[w.heap.size]? = some (.cells #[.bool xb, .int .i64 xp, .int .u8 xk, .int .u8 xs, .int .u32 xq, .int .u32 xv, .int .i64 xr] 113 (0, 0)) := (heap_alloc_old _ _ (by first | (simp; done) | (simp; omega))).trans ((heap_alloc_old _ _ (by first | (simp; done) | (simp; omega))).trans (heap_alloc2_old w _ _))
  have hv : ((((w.alloc (.cells #[.bool xb, .int .i64 xp, .int .u8 xk, .int .u8 xs, .int .u32 xq, .int .u32 xv, .int .i64 xr] 113)).alloc (.cells voidBoxV 122)).alloc (.cells voidV 56)).alloc (.cells #[.pointer none, .pointer (some ⟨w.heap.size + 1, 0, none⟩)] 106)).heap[w.heap.size + 1]? = some (.cells voidBoxV 122 (0, 0)) := (heap_alloc_old _ _ (by first | (simp; done) | (simp; omega))).trans ((heap_alloc_old _ _ (by simp)).trans (heap_new _ _ _ (by simp)))
  have hn : ((((w.alloc (.cells #[.bool xb, .int .i64 xp, .int .u8 xk, .int .u8 xs, .int .u32 xq, .int .u32 xv, .int .i64 xr] 113)).alloc (.cells voidBoxV 122)).alloc (.cells voidV 56)).alloc (.cells #[.pointer none, .pointer (some ⟨w.heap.size + 1, 0, none⟩)] 106)).heap[w.heap.size + 1 + 1]? = some (.cells voidV 56 (0, 0)) := (heap_alloc_old _ _ (by simp)).trans (heap_new _ _ _ (by simp))
  have hl : ((((w.alloc (.cells #[.bool xb, .int .i64 xp, .int .u8 xk, .int .u8 xs, .int .u32 xq, .int .u32 xv, .int .i64 xr] 113)).alloc (.cells voidBoxV 122)).alloc (.cells voidV 56)).alloc (.cells #[.pointer none, .pointer (some ⟨w.heap.size + 1, 0, none⟩)] 106)).heap[w.heap.size + 1 + 1 + 1]? = some (.cells #[.pointer none, .pointer (some ⟨w.heap.size + 1, 0, none⟩)] 106 (0, 0)) := heap_new _ _ _ (by simp)
  have R0 := Lib.hid (⟨hb0, hx, hv, hn, hl⟩ : Below w.heap.size w _ ∧ _ ∧ _ ∧ _ ∧ _)
  have HS := Lib.hid hs
  clear hb0 hx hn hl hv hs
  go_enter Tryd.func18, Tryd.ntmps18
  go_wp2_with fail
  go_loopw [6] (fun i wr => ∃ k : Nat, k ≤ 2 ∧ i = .int .i64 k ∧ Hid (Below w.heap.size w wr ∧ wr.heap[w.heap.size]? = some (.cells #[.bool xb, .int .i64 xp, .int .u8 xk, .int .u8 xs, .int .u32 xq, .int .u32 xv, .int .i64 xr] 113 (0, 0)) ∧ wr.heap[w.heap.size + 1]? = some (.cells voidBoxV 122 (0, 0)) ∧ wr.heap[w.heap.size + 1 + 1]? = some (.cells voidV 56 (0, 0)) ∧ wr.heap[w.heap.size + 1 + 1 + 1]? = some (.cells #[.pointer none, .pointer (some ⟨w.heap.size + 1, 0, none⟩)] 106 (0, 0)))) (fun i _ => 2 - (intOf i).toNat)
  case atStart => exact ⟨0, by omega, rfl, R0⟩
  case round =>
    obtain ⟨k, hk, rfl, HQ⟩ := hrel
    obtain ⟨W0, hW0⟩ : ∃ W0 : World, W0 = wr := ⟨_, rfl⟩
    subst hW0
    by_cases hlt : k < 2
    · obtain ⟨p, hp, hVB⟩ : ∃ p, W0.cell? ⟨w.heap.size + 1 + 1 + 1, k, none⟩ = some (.pointer p) ∧ VoidBox W0 p := by
        obtain rfl | rfl : k = 0 ∨ k = 1 := by omega
        · exact ⟨none, heap_cell HQ.out.2.2.2.2 0, .inl rfl⟩
        · exact ⟨_, heap_cell HQ.out.2.2.2.2 1, .inr ⟨_, rfl, heap_cell HQ.out.2.2.1 0⟩⟩
      have KC : ∀ W, Below W0.heap.size W0 W → W.cell? ⟨w.heap.size + 1 + 1 + 1, k, none⟩ = some (.pointer p) ∧ W.cell? ⟨w.heap.size, 1, none⟩ = some (.int .i64 xp) ∧ W.cell? ⟨w.heap.size, 2, none⟩ = some (.int .u8 xk) ∧ W.cell? ⟨w.heap.size, 3, none⟩ = some (.int .u8 xs) ∧ W.cell? ⟨w.heap.size, 4, none⟩ = some (.int .u32 xq) ∧ W.cell? ⟨w.heap.size, 5, none⟩ = some (.int .u32 xv) ∧ W.cell? ⟨w.heap.size, 6, none⟩ = some (.int .i64 xr) ∧ Hid (Below W0.heap.size W0 W) := fun W hb => by
        have r1 := row_laterH HQ.out.2.1 hb (Nat.le_refl _)
        exact ⟨(hb.cell (p := ⟨w.heap.size + 1 + 1 + 1, k, none⟩) (World.block_lt_of_cell? W0 _ hp)).trans hp, heap_cell r1 1, heap_cell r1 2, heap_cell r1 3, heap_cell r1 4, heap_cell r1 5, heap_cell r1 6, Lib.hid hb⟩
      have E1 : Hid (∀ W, Below W0.heap.size W0 W → Calls Tryd.prog 62 #[.pointer p, .int .i64 xp, .agg #[.int .u8 xk, .int .u8 xs, .int .u32 xq, .int .u32 xv], .int .i64 xr] W fun e w' => e = .returned (.int .i64 2) ∧ Below W0.heap.size W0 w') := Lib.hid fun W hb => (put_void p xp xk xs xq xv xr W (hVB.below hb)).mono fun _ _ ⟨h1, h2⟩ => ⟨h1, hb.trans (h2.mono hb.size)⟩
      have HVB := Lib.hid hVB
      have HKC := Lib.hid KC
      have HB0 := Lib.hid (Below.refl W0.heap.size W0)
      have dk : decide ((k : Int) < 2) = true := decide_eq_true (by omega)
      have ik1 : (0 : Int) ≤ (k : Int) := by omega
      have ik2 : (k : Int) < 2 := by omega
      have ik3 : ¬ (k : Int) < 0 := by omega
      clear KC hVB hp
      go_wp2_with fail
      go_region_held3 (fun W => W.cell? ⟨w.heap.size + 1 + 1 + 1, k, none⟩ = some (.pointer p) ∧ W.cell? ⟨w.heap.size, 1, none⟩ = some (.int .i64 xp) ∧ W.cell? ⟨w.heap.size, 2, none⟩ = some (.int .u8 xk) ∧ W.cell? ⟨w.heap.size, 3, none⟩ = some (.int .u8 xs) ∧ W.cell? ⟨w.heap.size, 4, none⟩ = some (.int .u32 xq) ∧ W.cell? ⟨w.heap.size, 5, none⟩ = some (.int .u32 xv) ∧ W.cell? ⟨w.heap.size, 6, none⟩ = some (.int .i64 xr) ∧ Hid (Below W0.heap.size W0 W)) (first | exact HKC.out _ HB0.out | exact HKC.out _ HB0.out.drew | exact HKC.out _ hc1 | fail) (first | (go_at_call 62; refine (E1.out _ (by first | exact HB0.out | exact HB0.out.drew)).mono ?_; rintro e W1 ⟨rfl, hc1⟩) | fail)
      have HB1 := Lib.hid hc1
      have E2 : Hid (∀ W, Below W0.heap.size W0 W → Calls Tryd.prog 64 #[.pointer p, .int .i64 xp, .int .i64 xr] W fun e w' => e = .returned (.tuple #[.agg #[.int .u8 0, .int .u8 0, .int .u32 0, .int .u32 0], .int .i64 (-1), .bool false]) ∧ Below W0.heap.size W0 w') := Lib.hid fun W hb => (get_void p xp xr W (HVB.out.below hb)).mono fun _ _ ⟨h1, h2⟩ => ⟨h1, hb.trans (h2.mono hb.size)⟩
      have E2a : Hid (Calls Tryd.prog 64 #[.pointer p, .int .i64 xp, .int .i64 xr] (W1.alloc (.cells #[.int .u8 0, .int .u8 0, .int .u32 0, .int .u32 0] 96)).drew fun e w' => e = .returned (.tuple #[.agg #[.int .u8 0, .int .u8 0, .int .u32 0, .int .u32 0], .int .i64 (-1), .bool false]) ∧ w'.heap[W1.heap.size]? = some (.cells #[.int .u8 0, .int .u8 0, .int .u32 0, .int .u32 0] 96 (0, 0)) ∧ Below W0.heap.size W0 w') := Lib.hid (by
        have hb : Below W1.heap.size W1 (W1.alloc (.cells #[.int .u8 0, .int .u8 0, .int .u32 0, .int .u32 0] 96)).drew := ((Below.refl W1.heap.size W1).alloc (Nat.le_refl _) _).drew
        have hrow : (W1.alloc (.cells #[.int .u8 0, .int .u8 0, .int .u32 0, .int .u32 0] 96)).drew.heap[W1.heap.size]? = some (.cells #[.int .u8 0, .int .u8 0, .int .u32 0, .int .u32 0] 96 (0, 0)) := heap_new W1 _ _ rfl
        exact (get_void p xp xr _ (HVB.out.below (HB1.out.trans (hb.mono HB1.out.size)))).mono fun _ _ ⟨h1, h2⟩ => ⟨h1, row_laterH hrow h2 (Nat.le_refl _), (HB1.out.trans (hb.mono HB1.out.size)).trans (h2.mono (HB1.out.trans (hb.mono HB1.out.size)).size)⟩)
      have HK8 : Hid (∀ W, Below W0.heap.size W0 W → W.cell? ⟨w.heap.size + 1 + 1 + 1, k, none⟩ = some (.pointer p) ∧ W.cell? ⟨w.heap.size, 1, none⟩ = some (.int .i64 xp) ∧ W.cell? ⟨w.heap.size, 6, none⟩ = some (.int .i64 xr) ∧ Hid (Below W0.heap.size W0 W)) := Lib.hid fun W hb => by
        have h := HKC.out W hb
        exact ⟨h.1, h.2.1, h.2.2.2.2.2.2.1, Lib.hid hb⟩
      have HS1 := Lib.hid HB1.out.size
      clear hc1
      go_wp2_with fail
      go_region_held3 (fun W => W.cell? ⟨w.heap.size + 1 + 1 + 1, k, none⟩ = some (.pointer p) ∧ W.cell? ⟨w.heap.size, 1, none⟩ = some (.int .i64 xp) ∧ W.cell? ⟨w.heap.size, 6, none⟩ = some (.int .i64 xr) ∧ Hid (Below W0.heap.size W0 W)) (first | exact HK8.out _ HB1.out | exact HK8.out _ HB1.out.drew | exact HK8.out _ (HB1.out.alloc HB1.out.size _).drew | exact HK8.out _ hc2 | exact HK8.out _ (hc2.alloc hc2.size _) | exact HK8.out _ ((((hc2.setCell HS1.out _).setCell HS1.out _).setCell HS1.out _).setCell HS1.out _) | fail) (first | (go_at_call 64; refine E2a.out.mono ?_; rintro e W2 ⟨rfl, hr2, hc2⟩; have t0 := heap_cell hr2 0; have t1 := heap_cell hr2 1; have t2 := heap_cell hr2 2; have t3 := heap_cell hr2 3; simp only [List.getElem?_toArray, List.getElem?_cons_zero, List.getElem?_cons_succ] at t0 t1 t2 t3; have f0 := heap_thawed hr2 0; have f1 := heap_thawed hr2 1; have f2 := heap_thawed hr2 2; have f3 := heap_thawed hr2 3; have HR2 := Lib.hid hr2; clear hr2) | (go_at_call 64; refine (E2.out _ (by first | exact HB1.out | exact HB1.out.drew)).mono ?_; rintro e W2 ⟨rfl, hc2⟩) | fail)
      all_goals
        first
        | (obtain ⟨V, hV⟩ : ∃ V, V = ((((W2.setCell ⟨W1.heap.size, 0, none⟩ (.int .u8 0)).setCell ⟨W1.heap.size, 1, none⟩ (.int .u8 0)).setCell ⟨W1.heap.size, 2, none⟩ (.int .u32 0)).setCell ⟨W1.heap.size, 3, none⟩ (.int .u32 0)) := ⟨_, rfl⟩
           rw [← hV]
           have hg : ∃ g, g = W1.heap.size ∧ V.heap[g]? = some (.cells #[.int .u8 0, .int .u8 0, .int .u32 0, .int .u32 0] 96 (0, 0)) := ⟨_, rfl, by rw [hV]; exact heap_set_same (heap_set_same (heap_set_same (heap_set_same HR2.out 0 _) 1 _) 2 _) 3 _⟩
           have HV : Hid (Below W0.heap.size W0 V) := Lib.hid (by rw [hV]; exact (((hc2.setCell HS1.out _).setCell HS1.out _).setCell HS1.out _).setCell HS1.out _)
           obtain ⟨g, hg1, rg⟩ := hg
           rw [← hg1]
           clear hV hg1 t0 t1 t2 t3 f0 f1 f2 f3)
        | (obtain ⟨V, hV⟩ : ∃ V, V = W2.alloc (.cells #[.int .u8 0, .int .u8 0, .int .u32 0, .int .u32 0] 96) := ⟨_, rfl⟩
           rw [← hV]
           have hg : ∃ g, g = W2.heap.size ∧ V.heap[g]? = some (.cells #[.int .u8 0, .int .u8 0, .int .u32 0, .int .u32 0] 96 (0, 0)) := ⟨_, rfl, by rw [hV]; exact heap_new _ _ _ rfl⟩
           have HV : Hid (Below W0.heap.size W0 V) := Lib.hid (by rw [hV]; exact hc2.alloc hc2.size _)
           obtain ⟨g, hg1, rg⟩ := hg
           rw [← hg1]
           clear hV hg1)
        have t0 : V.cell? ⟨g, 0, none⟩ = some (.int .u8 0) := heap_cell rg 0
        have t1 : V.cell? ⟨g, 1, none⟩ = some (.int .u8 0) := heap_cell rg 1
        have t2 : V.cell? ⟨g, 2, none⟩ = some (.int .u32 0) := heap_cell rg 2
        have t3 : V.cell? ⟨g, 3, none⟩ = some (.int .u32 0) := heap_cell rg 3
        clear hc2
        go_wp2
        go_roundw
        case rel =>
          have hb := HV.out
          have hs := HQ.out.1.size
          exact ⟨k + 1, by omega, by go_num, Lib.hid ⟨HQ.out.1.trans (hb.mono hs), row_laterH HQ.out.2.1 hb (Nat.le_refl _), row_laterH HQ.out.2.2.1 hb (Nat.le_refl _), row_laterH HQ.out.2.2.2.1 hb (Nat.le_refl _), row_laterH HQ.out.2.2.2.2 hb (Nat.le_refl _)⟩⟩
        case measure => simp [intOf]; omega
    · have hbw := HQ.out.1
      have hl := fun W (h : Below w.heap.size w W) => lives19_any W (HS.out.below h)
      have HL := Lib.hid hl
      have HBW := Lib.hid hbw
      have hn1 := newbox_void none voidC W0 (.inl ⟨rfl, rfl⟩)
      have hn2 := fun W (h : Below W0.heap.size W0 W) => newbox_void (some ⟨w.heap.size + 1 + 1, 0, none⟩) voidC W ((show NetP W0 _ voidC [] from voidNet HQ.out.2.2.2.1).below h)
      have HN1 := Lib.hid hn1
      have HN2 := Lib.hid hn2
      clear hl hbw hn1 hn2
      go_wp2_with fail
      refine HN1.out.mono ?_
      rintro e W1 ⟨rfl, hb1⟩
      have HB1 := Lib.hid hb1
      clear hb1
      go_wp2_with fail
      refine (HN2.out _ HB1.out).mono ?_
      rintro e W2 ⟨rfl, hb2⟩
      have HB2 := Lib.hid ((HBW.out.trans (HB1.out.mono HBW.out.size)).trans (hb2.mono (HBW.out.trans (HB1.out.mono HBW.out.size)).size))
      clear hb2
      go_wp2_with fail
      refine (HL.out _ HB2.out).mono ?_
      rintro e W3 ⟨rfl, hb3⟩
      go_wp2_with fail
      go_ret
      exact ⟨rfl, HB2.out.trans (hb3.mono HB2.out.size)⟩
end Go.Proofs.YtibncdkekceokaaDoor
