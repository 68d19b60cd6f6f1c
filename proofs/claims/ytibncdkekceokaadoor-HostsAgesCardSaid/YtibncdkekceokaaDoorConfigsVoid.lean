/- sennitlaw04.ConfigsVoid: the walk. -/
import Derived.Test.YtibncdkekceokaaDoorLives04
import Derived.Test.YtibncdkekceokaaDoorSame
namespace Go.Proofs.YtibncdkekceokaaDoor
open Go.RowKit

theorem nextvoid_any (p : Option Addr) (c : Cfg) (slot pair : Int) (w : World) (h : NetP w p c []) :
    Calls Tryd.prog 41 #[.pointer p, .int .i64 slot, .int .i64 pair] w fun e w' => e = .returned (.int .i64 (-1)) ∧ w = w' := by
  have h1 := netfirst_any p c [] pair w h
  rw [show fromL [] c.ps pair = -1 from rfl] at h1
  by_cases s0 : slot < 0
  · go_enter Tryd.func41, Tryd.ntmps41
    go_wp2_with fail
    go_ret
    exact ⟨rfl, rfl⟩
  by_cases s1 : 1099511627776 < slot
  · go_enter Tryd.func41, Tryd.ntmps41
    go_wp2_with fail
    go_ret
    exact ⟨rfl, rfl⟩
  · go_enter Tryd.func41, Tryd.ntmps41
    go_wp2_with (first | (go_at_call 38; refine (h1).mono ?_; rintro e w' ⟨rfl, rfl⟩) | fail)
    go_ret
    exact ⟨rfl, rfl⟩
theorem givenvoid_any (p : Option Addr) (c : Cfg) (w : World) (h : NetP w p c []) :
    Calls Tryd.prog 43 #[.pointer p] w fun e w' => e = .returned (.agg #[.int .i64 0, .slice none 0 0, .slice none 0 0, .int .i64 0, .slice none 0 0, .slice none 0 0, .int .i64 0, .int .i64 0, .int .i64 0]) ∧ Below w.heap.size w w' := by
  have hb := (Below.refl w.heap.size w).alloc (Nat.le_refl _) (.cells #[.int .i64 0, .slice none 0 0, .slice none 0 0, .int .i64 0, .slice none 0 0, .slice none 0 0, .int .i64 0, .int .i64 0, .int .i64 0] 25)
  have hth := there_any p c [] _ (h.below hb)
  rw [decide_eq_false (by simp)] at hth
  have HB := Lib.hid hb
  clear hb
  go_enter Tryd.func43, Tryd.ntmps43
  go_wp2_with (first | (go_at_call 77; refine (hth).mono ?_; rintro e w' ⟨rfl, rfl⟩) | fail)
  refine bodyPost_ret (v := .agg #[.int .i64 0, .slice none 0 0, .slice none 0 0, .int .i64 0, .slice none 0 0, .slice none 0 0, .int .i64 0, .int .i64 0, .int .i64 0]) (by simp [results, Tryd.results43, go_sem]) rfl ?_
  exact ⟨rfl, HB.out⟩
/-- The net that no call made. -/
def voidC : Cfg := ⟨0, 0, 0, 0, 0, [], [], [], []⟩
def voidV : Array Value := #[.int .i64 0, .slice none 0 0, .slice none 0 0, .int .i64 0, .slice none 0 0, .slice none 0 0, .int .i64 0, .int .i64 0, .int .i64 0, .slice none 0 0]
theorem voidNet {w : World} {g : Nat} (h : w.heap[g]? = some (.cells voidV 56 (0, 0))) : NetP w (some ⟨g, 0, none⟩) voidC [] := by
  have rn : Reads w eI none 0 [] := ⟨rfl, by omega, fun i hi => by omega⟩
  have rt : ReadsSt w none 0 [] := ⟨rfl, by omega, fun i hi => by omega⟩
  have ok : SliceOK none 0 0 := ⟨Nat.le_refl _, fun _ => ⟨rfl, rfl⟩, fun _ h => by cases h⟩
  exact .inr ⟨g, none, none, none, none, none, rfl, heap_cell h 0, heap_cell h 1, heap_cell h 2, heap_cell h 3, heap_cell h 4, heap_cell h 5, heap_cell h 6, heap_cell h 7, heap_cell h 8, heap_cell h 9, rn, rn, rn, rt, rn, ok, ok, ok, ok⟩
theorem voidCfg (w : World) : CfgIn w 0 0 0 0 0 none none none none 0 0 0 0 0 0 0 0 [] [] [] [] := by
  have rn : Reads w eI none 0 [] := ⟨rfl, by omega, fun i hi => by omega⟩
  have rt : ReadsSt w none 0 [] := ⟨rfl, by omega, fun i hi => by omega⟩
  have ok : SliceOK none 0 0 := ⟨Nat.le_refl _, fun _ => ⟨rfl, rfl⟩, fun _ h => by cases h⟩
  exact ⟨ok, ok, ok, ok, rn, rn, rn, rt⟩
set_option maxRecDepth 100000 in
set_option maxHeartbeats 4000000 in
theorem configsVoid_walk (x0 x1 slot : Int) (w : World) (hs : Signs w) :
    Calls Tryd.prog 9 #[.agg #[.int .i64 x0, .int .i64 x1], .int .i64 slot] w fun e w' => e = .returned (.bool true) ∧ Below w.heap.size w w' := by
  have hb0 := (((Below.refl w.heap.size w).alloc (Nat.le_refl _) (.cells #[.int .i64 x0, .int .i64 x1] 54)).alloc (by simp) (.cells voidV 56)).alloc (by simp; omega) (.cells #[.pointer none, .pointer (some ⟨w.heap.size + 1, 0, none⟩)] 35)
  have hx : (((w.alloc (.cells #[.int .i64 x0, .int .i64 x1] 54)).alloc (.cells voidV 56)).alloc (.cells #[.pointer none, .pointer (some ⟨w.heap.size + 1, 0, none⟩)] 35)).heap[w.heap.size]? = some (.cells #[.int .i64 x0, .int .i64 x1] 54 (0, 0)) := (heap_alloc_old _ _ (by simp; omega)).trans (heap_alloc2_old w _ _)
  have hn : (((w.alloc (.cells #[.int .i64 x0, .int .i64 x1] 54)).alloc (.cells voidV 56)).alloc (.cells #[.pointer none, .pointer (some ⟨w.heap.size + 1, 0, none⟩)] 35)).heap[w.heap.size + 1]? = some (.cells voidV 56 (0, 0)) := (heap_alloc_old _ _ (by simp)).trans (heap_new _ _ _ (by simp))
  have hl : (((w.alloc (.cells #[.int .i64 x0, .int .i64 x1] 54)).alloc (.cells voidV 56)).alloc (.cells #[.pointer none, .pointer (some ⟨w.heap.size + 1, 0, none⟩)] 35)).heap[w.heap.size + 1 + 1]? = some (.cells #[.pointer none, .pointer (some ⟨w.heap.size + 1, 0, none⟩)] 35 (0, 0)) := heap_new _ _ _ (by simp)
  have R0 := Lib.hid (⟨hb0, hx, hn, hl⟩ : Below w.heap.size w _ ∧ _ ∧ _ ∧ _)
  have HS := Lib.hid hs
  clear hb0 hx hn hl hs
  go_enter Tryd.func9, Tryd.ntmps9
  go_wp2_with fail
  go_loopw [7] (fun i wr => ∃ k : Nat, k ≤ 2 ∧ i = .int .i64 k ∧ Hid (Below w.heap.size w wr ∧ wr.heap[w.heap.size]? = some (.cells #[.int .i64 x0, .int .i64 x1] 54 (0, 0)) ∧ wr.heap[w.heap.size + 1]? = some (.cells voidV 56 (0, 0)) ∧ wr.heap[w.heap.size + 1 + 1]? = some (.cells #[.pointer none, .pointer (some ⟨w.heap.size + 1, 0, none⟩)] 35 (0, 0)))) (fun i _ => 2 - (intOf i).toNat)
  case atStart => exact ⟨0, by omega, rfl, R0⟩
  case round =>
    obtain ⟨k, hk, rfl, HR⟩ := hrel
    by_cases hlt : k < 2
    · obtain ⟨p, hp, hNP⟩ : ∃ p, wr.cell? ⟨w.heap.size + 1 + 1, k, none⟩ = some (.pointer p) ∧ NetP wr p voidC [] := by
        obtain rfl | rfl : k = 0 ∨ k = 1 := by omega
        · exact ⟨none, heap_cell HR.out.2.2.2 0, .inl ⟨rfl, rfl⟩⟩
        · exact ⟨_, heap_cell HR.out.2.2.2 1, voidNet HR.out.2.2.1⟩
      have x0' : wr.cell? ⟨w.heap.size, 0, none⟩ = some (.int .i64 x0) := heap_cell HR.out.2.1 0
      have x1' : wr.cell? ⟨w.heap.size, 1, none⟩ = some (.int .i64 x1) := heap_cell HR.out.2.1 1
      have d1 := netround_any p voidC [] wr hNP (fun h => absurd h (by simp))
      rw [show roundF [] voidC = 0 from rfl] at d1
      have HN := Lib.hid hNP
      clear hNP
      go_wp2_with fail
      refine d1.mono ?_
      rintro e w1 ⟨rfl, n1, rfl⟩
      have HN1 := Lib.hid (HN.out.drawn n1)
      go_wp2_with fail
      refine (owner_any p voidC [] _ _ HN1.out).mono ?_
      rintro e w1 ⟨rfl, rfl⟩
      rw [show ∀ i, fromL [] voidC.ss i = -1 from fun _ => rfl]
      go_wp2_with fail
      refine (netfirst_any p voidC [] _ _ HN1.out).mono ?_
      rintro e w1 ⟨rfl, rfl⟩
      rw [show ∀ i, fromL [] voidC.ps i = -1 from fun _ => rfl]
      go_wp2_with fail
      refine (pair_any p voidC [] _ _ HN1.out).mono ?_
      rintro e w1 ⟨rfl, rfl⟩
      rw [show ∀ i, fromL [] [] i = -1 from fun _ => rfl]
      go_wp2_with fail
      have hsg : Signs (wr.drewN n1) := (HS.out.below HR.out.1).drawn n1
      refine (partner_any p voidC [] _ _ HN1.out hsg).mono ?_
      rintro e w1 ⟨rfl, n2, rfl⟩
      rw [show ∀ i, partnerF [] voidC i = -1 from fun _ => rfl]
      have HN2 := Lib.hid (HN.out.drawn (n1 + n2))
      have HRB := Lib.hid (below_drewN HR.out.1 (n1 + n2))
      clear hsg
      go_wp2_with fail
      refine (nextvoid_any p voidC _ _ _ HN2.out).mono ?_
      rintro e w1 ⟨rfl, rfl⟩
      go_wp2_with fail
      refine (givenvoid_any p voidC _ HN2.out).mono ?_
      rintro e w3 ⟨rfl, hb3⟩
      go_wp2_with fail
      refine (sameconfig_any [] [] [] [] w3 (voidCfg w3) (voidCfg w3) (by omega) (by omega) (by omega) (by omega)).mono ?_
      rintro e w4 ⟨rfl, hb4⟩
      have HB4 := Lib.hid (show Below wr.heap.size wr w4 from (below_drawn wr (n1 + n2)).trans ((hb3.mono (Nat.le_refl _)).trans (hb4.mono (by have := hb3.size; exact this))))
      clear hb3 hb4
      go_wp2
      go_roundw
      case rel =>
        have hb := HB4.out
        have hs := HR.out.1.size
        exact ⟨k + 1, by omega, by go_num, Lib.hid ⟨HR.out.1.trans (hb.mono hs), (hb.block _ (by have := (Array.getElem?_eq_some_iff.1 HR.out.2.1).1; omega)).trans HR.out.2.1, (hb.block _ (by have := (Array.getElem?_eq_some_iff.1 HR.out.2.2.1).1; omega)).trans HR.out.2.2.1, (hb.block _ (by have := (Array.getElem?_eq_some_iff.1 HR.out.2.2.2).1; omega)).trans HR.out.2.2.2⟩⟩
      case measure => simp [intOf]; omega
    · have hbw := HR.out.1
      have hl := lives04_any wr (HS.out.below hbw)
      go_wp2_with (go_at_call 31; refine (hl).mono ?_; rintro e w' ⟨rfl, hb⟩)
      go_ret
      exact ⟨rfl, HR.out.1.trans (hb.mono HR.out.1.size)⟩
end Go.Proofs.YtibncdkekceokaaDoor
