/- sennitlaw10.WindowsVoid: the walk. -/
import Derived.Test.YtibncdkekceokaaDoorWindowsOver
import Derived.Test.YtibncdkekceokaaDoorConfigsVoid
namespace Go.Proofs.YtibncdkekceokaaDoor
open Go.RowKit

attribute [local go_sem ↓ high] winLoad_eq
attribute [local go_sem high] run_winLoad run_winLoad_new
theorem pass_zero (x y : Int) : passF 0 0 x y = 0 := by
  unfold passF openB
  rw [decide_eq_false (by omega)]
  rfl
set_option maxRecDepth 100000 in
set_option maxHeartbeats 4000000 in
theorem windowsVoid_walk (x0 x1 x2 x3 : Int) (w : World) (hs : Signs w) (hr : Roles w) :
    Calls Tryd.prog 13 #[.agg #[.int .i64 x0, .int .i64 x1, .int .i64 x2, .int .i64 x3]] w fun e w' => e = .returned (.bool true) ∧ Below w.heap.size w w' := by
  have hb0 := (((Below.refl w.heap.size w).alloc (Nat.le_refl _) (.cells #[.int .i64 x0, .int .i64 x1, .int .i64 x2, .int .i64 x3] 74)).alloc (by simp) (.cells voidV 56)).alloc (by simp; omega) (.cells #[.pointer none, .pointer (some ⟨w.heap.size + 1, 0, none⟩)] 35)
  have hx : (((w.alloc (.cells #[.int .i64 x0, .int .i64 x1, .int .i64 x2, .int .i64 x3] 74)).alloc (.cells voidV 56)).alloc (.cells #[.pointer none, .pointer (some ⟨w.heap.size + 1, 0, none⟩)] 35)).heap[w.heap.size]? = some (.cells #[.int .i64 x0, .int .i64 x1, .int .i64 x2, .int .i64 x3] 74 (0, 0)) := (heap_alloc_old _ _ (by simp; omega)).trans (heap_alloc2_old w _ _)
  have hn : (((w.alloc (.cells #[.int .i64 x0, .int .i64 x1, .int .i64 x2, .int .i64 x3] 74)).alloc (.cells voidV 56)).alloc (.cells #[.pointer none, .pointer (some ⟨w.heap.size + 1, 0, none⟩)] 35)).heap[w.heap.size + 1]? = some (.cells voidV 56 (0, 0)) := (heap_alloc_old _ _ (by simp)).trans (heap_new _ _ _ (by simp))
  have hl : (((w.alloc (.cells #[.int .i64 x0, .int .i64 x1, .int .i64 x2, .int .i64 x3] 74)).alloc (.cells voidV 56)).alloc (.cells #[.pointer none, .pointer (some ⟨w.heap.size + 1, 0, none⟩)] 35)).heap[w.heap.size + 1 + 1]? = some (.cells #[.pointer none, .pointer (some ⟨w.heap.size + 1, 0, none⟩)] 35 (0, 0)) := heap_new _ _ _ (by simp)
  have R0 := Lib.hid (⟨hb0, hx, hn, hl⟩ : Below w.heap.size w _ ∧ _ ∧ _ ∧ _)
  have HS := Lib.hid hs
  have HR := Lib.hid hr
  clear hb0 hx hn hl hs hr
  go_enter Tryd.func13, Tryd.ntmps13
  go_wp2_with fail
  go_loopw [5] (fun i wr => ∃ k : Nat, k ≤ 2 ∧ i = .int .i64 k ∧ Hid (Below w.heap.size w wr ∧ wr.heap[w.heap.size]? = some (.cells #[.int .i64 x0, .int .i64 x1, .int .i64 x2, .int .i64 x3] 74 (0, 0)) ∧ wr.heap[w.heap.size + 1]? = some (.cells voidV 56 (0, 0)) ∧ wr.heap[w.heap.size + 1 + 1]? = some (.cells #[.pointer none, .pointer (some ⟨w.heap.size + 1, 0, none⟩)] 35 (0, 0)))) (fun i _ => 2 - (intOf i).toNat)
  case atStart => exact ⟨0, by omega, rfl, R0⟩
  case round =>
    obtain ⟨k, hk, rfl, HQ⟩ := hrel
    obtain ⟨W0, hW0⟩ : ∃ W0 : World, W0 = wr := ⟨_, rfl⟩
    subst hW0
    by_cases hlt : k < 2
    · obtain ⟨p, hp, hNP⟩ : ∃ p, W0.cell? ⟨w.heap.size + 1 + 1, k, none⟩ = some (.pointer p) ∧ NetP W0 p voidC [] := by
        obtain rfl | rfl : k = 0 ∨ k = 1 := by omega
        · exact ⟨none, heap_cell HQ.out.2.2.2 0, .inl ⟨rfl, rfl⟩⟩
        · exact ⟨_, heap_cell HQ.out.2.2.2 1, voidNet HQ.out.2.2.1⟩
      have x0' : W0.cell? ⟨w.heap.size, 0, none⟩ = some (.int .i64 x0) := heap_cell HQ.out.2.1 0
      have x1' : W0.cell? ⟨w.heap.size, 1, none⟩ = some (.int .i64 x1) := heap_cell HQ.out.2.1 1
      have x2' : W0.cell? ⟨w.heap.size, 2, none⟩ = some (.int .i64 x2) := heap_cell HQ.out.2.1 2
      have x3' : W0.cell? ⟨w.heap.size, 3, none⟩ = some (.int .i64 x3) := heap_cell HQ.out.2.1 3
      have KC : ∀ W, Below W0.heap.size W0 W → W.cell? ⟨w.heap.size + 1 + 1, k, none⟩ = some (.pointer p) ∧ W.cell? ⟨w.heap.size, 0, none⟩ = some (.int .i64 x0) ∧ W.cell? ⟨w.heap.size, 1, none⟩ = some (.int .i64 x1) ∧ W.cell? ⟨w.heap.size, 2, none⟩ = some (.int .i64 x2) ∧ W.cell? ⟨w.heap.size, 3, none⟩ = some (.int .i64 x3) ∧ w.heap.size < W.heap.size ∧ w.heap.size + 1 + 1 < W.heap.size := fun W hb => by
        have r1 := row_later HQ.out.2.1 hb (Nat.le_refl _)
        have r3 := row_later HQ.out.2.2.2 hb (Nat.le_refl _)
        exact ⟨(hb.cell (p := ⟨w.heap.size + 1 + 1, k, none⟩) (World.block_lt_of_cell? W0 _ hp)).trans hp, heap_cell r1 0, heap_cell r1 1, heap_cell r1 2, heap_cell r1 3, (Array.getElem?_eq_some_iff.1 r1).1, (Array.getElem?_eq_some_iff.1 r3).1⟩
      have D1 : ∀ W, Below W0.heap.size W0 W → Calls Tryd.prog 48 #[.pointer p, .int .u8 (x0 % 256), .int .i64 x1, .int .i64 x2] W fun e w' => e = .returned (.tuple #[.agg #[.int .u8 0, .int .i64 0, .int .i64 0, .int .i64 0], .int .i64 2]) ∧ Below W0.heap.size W0 w' := fun W hb =>
        (winof_void p voidC [] (x0 % 256) x1 x2 W (hNP.below hb) (fun h => absurd h (by simp)) rfl).mono fun e w' ⟨h1, h2⟩ => ⟨h1, hb.trans (h2.mono hb.size)⟩
      have D2 : ∀ W, Below W0.heap.size W0 W → Calls Tryd.prog 53 #[.pointer p, .int .i64 x1] W fun e w' => e = .returned (.tuple #[.int .i64 (-1), .int .i64 (-1)]) ∧ ∃ n, w' = W.drewN n := fun W hb =>
        (guards_any p voidC [] x1 W (HS.out.below (HQ.out.1.trans (hb.mono HQ.out.1.size))) (hNP.below hb)).mono fun e w' ⟨h1, n, h2⟩ => ⟨h1, n, h2⟩
      have D3 : ∀ W, Below W0.heap.size W0 W → Calls Tryd.prog 47 #[.pointer p] W fun e w' => e = .returned (.int .i64 0) ∧ Below W.heap.size W w' := fun W hb =>
        (over_any p voidC [] W (hNP.below hb) (fun h => absurd h (by simp)) (by decide)).mono fun e w' ⟨h1, n, h2⟩ => ⟨h1, by rw [h2]; exact below_drawn W n⟩
      have D4 : ∀ W, Below W0.heap.size W0 W → Calls Tryd.prog 51 #[.agg #[.int .u8 0, .int .i64 0, .int .i64 0, .int .i64 0], .int .i64 x3] W fun e w' => e = .returned (.tuple #[.int .i64 0, .bool false]) ∧ Below W.heap.size W w' := fun W hb => by
        have h := winat_any 0 0 0 0 x3 (by omega) (by omega) W
        rw [show tickF 0 0 x3 = 0 by unfold tickF; rw [if_neg (by omega)], show openB 0 0 x3 = false by unfold openB; exact decide_eq_false (by omega)] at h
        exact h
      have D5 : ∀ W, Below W0.heap.size W0 W → Calls Tryd.prog 55 #[.agg #[.int .u8 0, .int .i64 0, .int .i64 0, .int .i64 0], .int .i64 x3, .int .u8 2] W fun e w' => e = .returned (.int .u8 0) ∧ Below W.heap.size W w' := fun W hb => by
        have h := winpass_any 0 0 0 0 x3 2 (by omega) (by omega) W
        rw [show passF 0 0 x3 2 = 0 from pass_zero x3 2] at h
        exact h
      have E1 := Lib.hid D1
      have E2 := Lib.hid D2
      have E3 := Lib.hid D3
      have E4 := Lib.hid D4
      have E5 := Lib.hid D5
      have HKC := Lib.hid KC
      have HK1 : Hid (∀ W, Below W0.heap.size W0 W → W.cell? ⟨w.heap.size + 1 + 1, k, none⟩ = some (.pointer p) ∧ W.cell? ⟨w.heap.size, 0, none⟩ = some (.int .i64 x0) ∧ W.cell? ⟨w.heap.size, 1, none⟩ = some (.int .i64 x1) ∧ W.cell? ⟨w.heap.size, 2, none⟩ = some (.int .i64 x2) ∧ Hid (Below W0.heap.size W0 W)) := Lib.hid fun W hb => by
        have h := KC W hb
        exact ⟨h.1, h.2.1, h.2.2.1, h.2.2.2.1, Lib.hid hb⟩
      have HB0 := Lib.hid (Below.refl W0.heap.size W0)
      have E1a : Hid (Calls Tryd.prog 48 #[.pointer p, .int .u8 (x0 % 256), .int .i64 x1, .int .i64 x2] (W0.alloc (.cells #[.int .u8 0, .int .i64 0, .int .i64 0, .int .i64 0] 70)).drew fun e w' => e = .returned (.tuple #[.agg #[.int .u8 0, .int .i64 0, .int .i64 0, .int .i64 0], .int .i64 2]) ∧ w'.heap[W0.heap.size]? = some (.cells #[.int .u8 0, .int .i64 0, .int .i64 0, .int .i64 0] 70 (0, 0)) ∧ Below W0.heap.size W0 w') := Lib.hid (by
        have hb : Below W0.heap.size W0 (W0.alloc (.cells #[.int .u8 0, .int .i64 0, .int .i64 0, .int .i64 0] 70)).drew := ((Below.refl W0.heap.size W0).alloc (Nat.le_refl _) _).drew
        have hrow : (W0.alloc (.cells #[.int .u8 0, .int .i64 0, .int .i64 0, .int .i64 0] 70)).drew.heap[W0.heap.size]? = some (.cells #[.int .u8 0, .int .i64 0, .int .i64 0, .int .i64 0] 70 (0, 0)) := heap_new W0 _ _ rfl
        exact (winof_void p voidC [] (x0 % 256) x1 x2 _ (hNP.below hb) (fun h => absurd h (by simp)) rfl).mono fun e w' ⟨h1, h2⟩ => ⟨h1, row_later hrow h2 (Nat.le_refl _), hb.trans (h2.mono hb.size)⟩)
      clear D1 D2 D3 D4 D5 KC hNP hp x0' x1' x2' x3'
      obtain ⟨hp, x0', x1', x2', x3', s0, s2⟩ := HKC.out W0 HB0.out
      go_wp2_with fail
      clear hp x0' x1' x2' x3' s0 s2
      go_region_held3 (fun W => W.cell? ⟨w.heap.size + 1 + 1, k, none⟩ = some (.pointer p) ∧ W.cell? ⟨w.heap.size, 0, none⟩ = some (.int .i64 x0) ∧ W.cell? ⟨w.heap.size, 1, none⟩ = some (.int .i64 x1) ∧ W.cell? ⟨w.heap.size, 2, none⟩ = some (.int .i64 x2) ∧ Hid (Below W0.heap.size W0 W)) (first | exact HK1.out _ HB0.out | exact HK1.out _ HB0.out.drew | exact HK1.out _ (HB0.out.alloc (Nat.le_refl _) _).drew | exact HK1.out _ hc1 | exact HK1.out _ (hc1.alloc hc1.size _) | exact HK1.out _ ((((hc1.setCell (Nat.le_refl _) _).setCell (Nat.le_refl _) _).setCell (Nat.le_refl _) _).setCell (Nat.le_refl _) _) | fail) (first | (go_at_call 48; refine E1a.out.mono ?_; rintro e W1 ⟨rfl, hr1, hc1⟩; have t0 := heap_cell hr1 0; have t1 := heap_cell hr1 1; have t2 := heap_cell hr1 2; have t3 := heap_cell hr1 3; simp only [List.getElem?_toArray, List.getElem?_cons_zero, List.getElem?_cons_succ] at t0 t1 t2 t3; have f0 := heap_thawed hr1 0; have f1 := heap_thawed hr1 1; have f2 := heap_thawed hr1 2; have f3 := heap_thawed hr1 3; have HR1 := Lib.hid hr1; clear hr1) | (go_at_call 48; refine (E1.out _ (by first | exact HB0.out | exact HB0.out.drew)).mono ?_; rintro e W1 ⟨rfl, hc1⟩) | fail)
      all_goals
        first
        | (obtain ⟨V, hV⟩ : ∃ V, V = ((((W1.setCell ⟨W0.heap.size, 0, none⟩ (.int .u8 0)).setCell ⟨W0.heap.size, 1, none⟩ (.int .i64 0)).setCell ⟨W0.heap.size, 2, none⟩ (.int .i64 0)).setCell ⟨W0.heap.size, 3, none⟩ (.int .i64 0)) := ⟨_, rfl⟩
           rw [← hV]
           have hg : ∃ g, g = W0.heap.size ∧ V.heap[g]? = some (.cells #[.int .u8 0, .int .i64 0, .int .i64 0, .int .i64 0] 70 (0, 0)) := ⟨_, rfl, by rw [hV]; exact heap_set_same (heap_set_same (heap_set_same (heap_set_same HR1.out 0 _) 1 _) 2 _) 3 _⟩
           have HV : Hid (Below W0.heap.size W0 V) := Lib.hid (by rw [hV]; exact (((hc1.setCell (Nat.le_refl _) _).setCell (Nat.le_refl _) _).setCell (Nat.le_refl _) _).setCell (Nat.le_refl _) _)
           obtain ⟨g, hg1, rg⟩ := hg
           rw [← hg1]
           clear hV hg1 t0 t1 t2 t3 f0 f1 f2 f3)
        | (obtain ⟨V, hV⟩ : ∃ V, V = W1.alloc (.cells #[.int .u8 0, .int .i64 0, .int .i64 0, .int .i64 0] 70) := ⟨_, rfl⟩
           rw [← hV]
           have hg : ∃ g, g = W1.heap.size ∧ V.heap[g]? = some (.cells #[.int .u8 0, .int .i64 0, .int .i64 0, .int .i64 0] 70 (0, 0)) := ⟨_, rfl, by rw [hV]; exact heap_new _ _ _ rfl⟩
           have HV : Hid (Below W0.heap.size W0 V) := Lib.hid (by rw [hV]; exact hc1.alloc hc1.size _)
           obtain ⟨g, hg1, rg⟩ := hg
           rw [← hg1]
           clear hV hg1)
        obtain ⟨hp, x0', x1', x2', x3', s0, s2⟩ := HKC.out V HV.out
        go_wp2_with fail
        go_quiet ((go_at_call 53; exact quiet_dr0 (E2.out _ (below_drewN HV.out _))))
        rename_i nq
        obtain ⟨V2, hV2⟩ : ∃ V2, V2 = V.drewN nq := ⟨_, rfl⟩
        rw [← hV2]
        have HV2 : Hid (Below W0.heap.size W0 V2) := Lib.hid (by rw [hV2]; exact below_drewN HV.out _)
        have rg2 : V2.heap[g]? = some (.cells #[.int .u8 0, .int .i64 0, .int .i64 0, .int .i64 0] 70 (0, 0)) := by rw [hV2]; exact rg
        clear hp x0' x1' x2' x3' s0 s2 hV2 rg
        obtain ⟨hp, x0', x1', x2', x3', s0, s2⟩ := HKC.out V2 HV2.out
        go_wp2_with fail
        refine (E4.out _ HV2.out).mono ?_
        rintro e V3 ⟨rfl, hb3⟩
        have HV3 := Lib.hid (HV2.out.trans (hb3.mono HV2.out.size))
        have rg3 := row_later rg2 hb3 (Nat.le_refl _)
        clear hp x0' x1' x2' x3' s0 s2 hb3 rg2
        obtain ⟨hp, x0', x1', x2', x3', s0, s2⟩ := HKC.out V3 HV3.out
        clear s0 s2
        go_wp2_with fail
        refine (E3.out _ HV3.out).mono ?_
        rintro e V4 ⟨rfl, hb4⟩
        have HV4 := Lib.hid (HV3.out.trans (hb4.mono HV3.out.size))
        have rg4 := row_later rg3 hb4 (Nat.le_refl _)
        clear hp x0' x1' x2' x3' hb4 rg3
        obtain ⟨hp, x0', x1', x2', x3', s0, s2⟩ := HKC.out V4 HV4.out
        clear s0 s2
        go_wp2_with fail
        refine (E5.out _ HV4.out).mono ?_
        rintro e V5 ⟨rfl, hb5⟩
        have HV5 := Lib.hid (HV4.out.trans (hb5.mono HV4.out.size))
        clear hp x0' x1' x2' x3' hb5 rg4
        go_wp2
        go_roundw
        case rel =>
          have hb := HV5.out
          have hs := HQ.out.1.size
          exact ⟨k + 1, by omega, by go_num, Lib.hid ⟨HQ.out.1.trans (hb.mono hs), row_later HQ.out.2.1 hb (Nat.le_refl _), row_later HQ.out.2.2.1 hb (Nat.le_refl _), row_later HQ.out.2.2.2 hb (Nat.le_refl _)⟩⟩
        case measure => simp [intOf]; omega
    · have hbw := HQ.out.1
      have hl := lives10_any W0 (HS.out.below hbw) (HR.out.below hbw)
      have HL := Lib.hid hl
      have HBW := Lib.hid hbw
      clear hl hbw
      go_wp2_with (go_at_call 46; refine (HL.out).mono ?_; rintro e w' ⟨rfl, hbe⟩)
      go_ret
      exact ⟨rfl, HBW.out.trans (hbe.mono HBW.out.size)⟩
end Go.Proofs.YtibncdkekceokaaDoor
