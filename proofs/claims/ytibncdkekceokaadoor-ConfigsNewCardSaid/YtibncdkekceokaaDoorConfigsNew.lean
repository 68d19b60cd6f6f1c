/- sennitlaw04.ConfigsNew: the walk. -/
import Derived.Test.YtibncdkekceokaaDoorLives04
import Derived.Test.YtibncdkekceokaaDoorRefNew
import Derived.Test.YtibncdkekceokaaDoorLeft
namespace Go.Proofs.YtibncdkekceokaaDoor
open Go.RowKit

set_option maxRecDepth 100000 in
set_option maxHeartbeats 8000000 in
theorem configsNew_walk (nodes long miss good fresh : Int) (pa sa ba ta : Option Addr) (pn pc sn sc bn bc tn tc : Nat) (ps ss bs : List Int) (ts : List (Int × Int × Int)) (w : World) (hs : Signs w) (hC : CfgIn w nodes long miss good fresh pa sa ba ta pn pc sn sc bn bc tn tc ps ss bs ts) :
    Calls Tryd.prog 6 #[.agg #[.int .i64 nodes, .slice pa pn pc, .slice sa sn sc, .int .i64 long, .slice ba bn bc, .slice ta tn tc, .int .i64 miss, .int .i64 good, .int .i64 fresh]] w fun e w' => e = .returned (.bool true) ∧ Below w.heap.size w w' := by
  have hb0 := (Below.refl w.heap.size w).alloc (Nat.le_refl _) (.cells #[.int .i64 nodes, .slice pa pn pc, .slice sa sn sc, .int .i64 long, .slice ba bn bc, .slice ta tn tc, .int .i64 miss, .int .i64 good, .int .i64 fresh] 25)
  have r0 : (w.alloc (.cells #[.int .i64 nodes, .slice pa pn pc, .slice sa sn sc, .int .i64 long, .slice ba bn bc, .slice ta tn tc, .int .i64 miss, .int .i64 good, .int .i64 fresh] 25)).heap[w.heap.size]? = some (.cells #[.int .i64 nodes, .slice pa pn pc, .slice sa sn sc, .int .i64 long, .slice ba bn bc, .slice ta tn tc, .int .i64 miss, .int .i64 good, .int .i64 fresh] 25 (0, 0)) := heap_new _ _ _ rfl
  have hG := great_any nodes long miss good fresh pa sa ba ta pn pc sn sc bn bc tn tc ps ss bs ts _ (hC.below hb0)
  have HS := Lib.hid hs
  have HC := Lib.hid hC
  have HB0 := Lib.hid hb0
  have HR0 := Lib.hid r0
  clear hs hC hb0
  go_enter Tryd.func6, Tryd.ntmps6
  go_wp2_with fail
  refine hG.mono ?_
  rintro e w1 ⟨rfl, hb1⟩
  have HB1 := Lib.hid (HB0.out.trans (hb1.mono (by simp)))
  have r1 : w1.heap[w.heap.size]? = some (.cells #[.int .i64 nodes, .slice pa pn pc, .slice sa sn sc, .int .i64 long, .slice ba bn bc, .slice ta tn tc, .int .i64 miss, .int .i64 good, .int .i64 fresh] 25 (0, 0)) := (hb1.block _ (by simp)).trans HR0.out
  have HR1 := Lib.hid r1
  have k0 : w1.cell? ⟨w.heap.size, 0, none⟩ = some (.int .i64 nodes) := heap_cell r1 0
  have k1 : w1.cell? ⟨w.heap.size, 1, none⟩ = some (.slice pa pn pc) := heap_cell r1 1
  have k2 : w1.cell? ⟨w.heap.size, 2, none⟩ = some (.slice sa sn sc) := heap_cell r1 2
  have k3 : w1.cell? ⟨w.heap.size, 3, none⟩ = some (.int .i64 long) := heap_cell r1 3
  have k4 : w1.cell? ⟨w.heap.size, 4, none⟩ = some (.slice ba bn bc) := heap_cell r1 4
  have k5 : w1.cell? ⟨w.heap.size, 5, none⟩ = some (.slice ta tn tc) := heap_cell r1 5
  have k6 : w1.cell? ⟨w.heap.size, 6, none⟩ = some (.int .i64 miss) := heap_cell r1 6
  have k7 : w1.cell? ⟨w.heap.size, 7, none⟩ = some (.int .i64 good) := heap_cell r1 7
  have k8 : w1.cell? ⟨w.heap.size, 8, none⟩ = some (.int .i64 fresh) := heap_cell r1 8
  clear hb1 r0 hG
  by_cases big : 60 < pn ∨ 60 < sn ∨ 60 < bn ∨ 60 < tn
  · rw [decide_eq_true big]
    have hl := lives04_any w1 (HS.out.below HB1.out)
    clear big
    go_wp2_with (go_at_call 31; refine (hl).mono ?_; rintro e w' ⟨rfl, hbe⟩)
    go_ret
    exact ⟨rfl, HB1.out.trans (hbe.mono HB1.out.size)⟩
  rw [decide_eq_false big]
  have lp : pn ≤ 60 := by omega
  have ls : sn ≤ 60 := by omega
  have lb : bn ≤ 60 := by omega
  have lt : tn ≤ 60 := by omega
  clear big
  go_wp2_with fail
  refine (twinConfig_any nodes long miss good fresh pa sa ba ta pn pc sn sc bn bc tn tc ps ss bs ts w1 (HC.out.below HB1.out) (by omega) (by omega) (by omega) (by omega)).mono ?_
  rintro e w2 ⟨g1, c1, g2, c2, g3, c3, g4, c4, rfl, HT⟩
  have hs1 := HB1.out.size
  have HB2 := Lib.hid (HB1.out.trans (HT.out.2.2.2.2.mono hs1))
  have r2 : w2.heap[w.heap.size]? = some (.cells #[.int .i64 nodes, .slice pa pn pc, .slice sa sn sc, .int .i64 long, .slice ba bn bc, .slice ta tn tc, .int .i64 miss, .int .i64 good, .int .i64 fresh] 25 (0, 0)) := (HT.out.2.2.2.2.block _ (Array.getElem?_eq_some_iff.1 HR1.out).1).trans HR1.out
  have HR2 := Lib.hid r2
  clear r1 k0 k1 k2 k3 k4 k5 k6 k7 k8
  go_wp2_with fail
  have b3 : Below w2.heap.size w2 (w2.alloc (.cells #[.int .i64 nodes, .slice (some ⟨g1, 0, none⟩) pn c1, .slice (some ⟨g2, 0, none⟩) sn c2, .int .i64 long, .slice (some ⟨g3, 0, none⟩) bn c3, .slice (some ⟨g4, 0, none⟩) tn c4, .int .i64 miss, .int .i64 good, .int .i64 fresh] 25)) := (Below.refl w2.heap.size w2).alloc (Nat.le_refl _) _
  have q3 : (w2.alloc (.cells #[.int .i64 nodes, .slice (some ⟨g1, 0, none⟩) pn c1, .slice (some ⟨g2, 0, none⟩) sn c2, .int .i64 long, .slice (some ⟨g3, 0, none⟩) bn c3, .slice (some ⟨g4, 0, none⟩) tn c4, .int .i64 miss, .int .i64 good, .int .i64 fresh] 25)).heap[w2.heap.size]? = some (.cells #[.int .i64 nodes, .slice (some ⟨g1, 0, none⟩) pn c1, .slice (some ⟨g2, 0, none⟩) sn c2, .int .i64 long, .slice (some ⟨g3, 0, none⟩) bn c3, .slice (some ⟨g4, 0, none⟩) tn c4, .int .i64 miss, .int .i64 good, .int .i64 fresh] 25 (0, 0)) := heap_new _ _ _ rfl
  generalize w2.alloc (.cells #[.int .i64 nodes, .slice (some ⟨g1, 0, none⟩) pn c1, .slice (some ⟨g2, 0, none⟩) sn c2, .int .i64 long, .slice (some ⟨g3, 0, none⟩) bn c3, .slice (some ⟨g4, 0, none⟩) tn c4, .int .i64 miss, .int .i64 good, .int .i64 fresh] 25) = w3 at b3 q3 ⊢
  have hs2 := HB2.out.size
  have HB3 := Lib.hid (HB2.out.trans (b3.mono hs2))
  have HT3 := Lib.hid (TwinC.below (w := w2) ⟨HT.out.1, HT.out.2.1, HT.out.2.2.1, HT.out.2.2.2.1⟩ b3)
  have HR3 := Lib.hid ((b3.block w.heap.size (Array.getElem?_eq_some_iff.1 HR2.out).1).trans HR2.out)
  have HQ3 := Lib.hid q3
  clear b3 q3 r2
  obtain ⟨c, hc⟩ : ∃ c, c = Cfg.mk nodes long miss good fresh ps ss bs ts := ⟨_, rfl⟩
  have hN := new_any _ _ _ _ _ _ _ _ _ _ _ _ _ _ _ _ _ ps ss bs ts w3 (HS.out.below HB3.out) (HT3.out.cfg (by omega) (by omega) (by omega) (by omega) nodes long miss good fresh)
  rw [← hc] at hN
  have HCC := Lib.hid hc
  clear hc
  refine hN.mono ?_
  rintro e w4 hP
  clear hN
  obtain ⟨x, pn', hx, rfl, hb4⟩ : ∃ (x : Int) (pt : Option Addr), c.err = x ∧ e = .returned (.tuple #[.pointer pt, .int .i64 x]) ∧ Below w3.heap.size w3 w4 ∧ (pt = none ↔ x ≠ 0) := by
    rcases hP with ⟨h0, rfl, hb3⟩ | ⟨h0, b, rfl, hA, hb3⟩
    · exact ⟨_, none, rfl, rfl, hb3, by simp [h0]⟩
    · exact ⟨0, some ⟨b, 0, none⟩, h0, rfl, hb3, by simp⟩
  clear hP
  obtain ⟨hb4, hpt⟩ := hb4
  have hs3 := HB3.out.size
  have HB4 := Lib.hid (HB3.out.trans (hb4.mono hs3))
  have r4 := (hb4.block w.heap.size (Array.getElem?_eq_some_iff.1 HR3.out).1).trans HR3.out
  have q4 := (hb4.block w2.heap.size (Array.getElem?_eq_some_iff.1 HQ3.out).1).trans HQ3.out
  have HT4 := Lib.hid (HT3.out.below hb4)
  have HX := Lib.hid hx
  have HPT := Lib.hid hpt
  clear hx hpt hb4
  have k0 : w4.cell? ⟨w.heap.size, 0, none⟩ = some (.int .i64 nodes) := heap_cell r4 0
  have k1 : w4.cell? ⟨w.heap.size, 1, none⟩ = some (.slice pa pn pc) := heap_cell r4 1
  have k2 : w4.cell? ⟨w.heap.size, 2, none⟩ = some (.slice sa sn sc) := heap_cell r4 2
  have k3 : w4.cell? ⟨w.heap.size, 3, none⟩ = some (.int .i64 long) := heap_cell r4 3
  have k4 : w4.cell? ⟨w.heap.size, 4, none⟩ = some (.slice ba bn bc) := heap_cell r4 4
  have k5 : w4.cell? ⟨w.heap.size, 5, none⟩ = some (.slice ta tn tc) := heap_cell r4 5
  have k6 : w4.cell? ⟨w.heap.size, 6, none⟩ = some (.int .i64 miss) := heap_cell r4 6
  have k7 : w4.cell? ⟨w.heap.size, 7, none⟩ = some (.int .i64 good) := heap_cell r4 7
  have k8 : w4.cell? ⟨w.heap.size, 8, none⟩ = some (.int .i64 fresh) := heap_cell r4 8
  have j0 : w4.cell? ⟨w2.heap.size, 0, none⟩ = some (.int .i64 nodes) := heap_cell q4 0
  have j1 : w4.cell? ⟨w2.heap.size, 1, none⟩ = some (.slice (some ⟨g1, 0, none⟩) pn c1) := heap_cell q4 1
  have j2 : w4.cell? ⟨w2.heap.size, 2, none⟩ = some (.slice (some ⟨g2, 0, none⟩) sn c2) := heap_cell q4 2
  have j3 : w4.cell? ⟨w2.heap.size, 3, none⟩ = some (.int .i64 long) := heap_cell q4 3
  have j4 : w4.cell? ⟨w2.heap.size, 4, none⟩ = some (.slice (some ⟨g3, 0, none⟩) bn c3) := heap_cell q4 4
  have j5 : w4.cell? ⟨w2.heap.size, 5, none⟩ = some (.slice (some ⟨g4, 0, none⟩) tn c4) := heap_cell q4 5
  have j6 : w4.cell? ⟨w2.heap.size, 6, none⟩ = some (.int .i64 miss) := heap_cell q4 6
  have j7 : w4.cell? ⟨w2.heap.size, 7, none⟩ = some (.int .i64 good) := heap_cell q4 7
  have j8 : w4.cell? ⟨w2.heap.size, 8, none⟩ = some (.int .i64 fresh) := heap_cell q4 8
  have HR4 := Lib.hid r4
  have HQ4 := Lib.hid q4
  clear r4 q4
  go_wp2_with fail
  have hR := refnew_any nodes long miss good fresh pa sa ba ta pn pc sn sc bn bc tn tc ps ss bs ts w4 (HC.out.below HB4.out)
  rw [← HCC.out, HX.out] at hR
  refine hR.mono ?_
  rintro e w5 ⟨rfl, hb5⟩
  clear k0 k1 k2 k3 k4 k5 k6 k7 k8 j0 j1 j2 j3 j4 j5 j6 j7 j8 hR
  have HB5 := Lib.hid (HB4.out.trans (hb5.mono HB4.out.size))
  have r5 := (hb5.block w.heap.size (Array.getElem?_eq_some_iff.1 HR4.out).1).trans HR4.out
  have q5 := (hb5.block w2.heap.size (Array.getElem?_eq_some_iff.1 HQ4.out).1).trans HQ4.out
  have HT5 := Lib.hid (HT4.out.below hb5)
  clear hb5
  have k0 : w5.cell? ⟨w.heap.size, 0, none⟩ = some (.int .i64 nodes) := heap_cell r5 0
  have k1 : w5.cell? ⟨w.heap.size, 1, none⟩ = some (.slice pa pn pc) := heap_cell r5 1
  have k2 : w5.cell? ⟨w.heap.size, 2, none⟩ = some (.slice sa sn sc) := heap_cell r5 2
  have k3 : w5.cell? ⟨w.heap.size, 3, none⟩ = some (.int .i64 long) := heap_cell r5 3
  have k4 : w5.cell? ⟨w.heap.size, 4, none⟩ = some (.slice ba bn bc) := heap_cell r5 4
  have k5 : w5.cell? ⟨w.heap.size, 5, none⟩ = some (.slice ta tn tc) := heap_cell r5 5
  have k6 : w5.cell? ⟨w.heap.size, 6, none⟩ = some (.int .i64 miss) := heap_cell r5 6
  have k7 : w5.cell? ⟨w.heap.size, 7, none⟩ = some (.int .i64 good) := heap_cell r5 7
  have k8 : w5.cell? ⟨w.heap.size, 8, none⟩ = some (.int .i64 fresh) := heap_cell r5 8
  have j0 : w5.cell? ⟨w2.heap.size, 0, none⟩ = some (.int .i64 nodes) := heap_cell q5 0
  have j1 : w5.cell? ⟨w2.heap.size, 1, none⟩ = some (.slice (some ⟨g1, 0, none⟩) pn c1) := heap_cell q5 1
  have j2 : w5.cell? ⟨w2.heap.size, 2, none⟩ = some (.slice (some ⟨g2, 0, none⟩) sn c2) := heap_cell q5 2
  have j3 : w5.cell? ⟨w2.heap.size, 3, none⟩ = some (.int .i64 long) := heap_cell q5 3
  have j4 : w5.cell? ⟨w2.heap.size, 4, none⟩ = some (.slice (some ⟨g3, 0, none⟩) bn c3) := heap_cell q5 4
  have j5 : w5.cell? ⟨w2.heap.size, 5, none⟩ = some (.slice (some ⟨g4, 0, none⟩) tn c4) := heap_cell q5 5
  have j6 : w5.cell? ⟨w2.heap.size, 6, none⟩ = some (.int .i64 miss) := heap_cell q5 6
  have j7 : w5.cell? ⟨w2.heap.size, 7, none⟩ = some (.int .i64 good) := heap_cell q5 7
  have j8 : w5.cell? ⟨w2.heap.size, 8, none⟩ = some (.int .i64 fresh) := heap_cell q5 8
  clear r5 q5
  have hpt := HPT.out
  cases pn' with
  | none =>
    have hx0 : x ≠ 0 := hpt.1 rfl
    have b1 : (x != 0) = true := by simpa using hx0
    have b2 : (x == 0) = false := by simpa using hx0
    clear hpt
    go_wp2_with fail
    refine (leftConfig_any nodes long miss good fresh pa sa ba ta pn pc sn sc bn bc tn tc ps ss bs ts _ g1 c1 g2 c2 g3 c3 g4 c4 w5 (HC.out.below HB5.out) HT5.out (by omega) (by omega) (by omega) (by omega)).mono ?_
    rintro e w6 ⟨rfl, hb6⟩
    have HB6 := Lib.hid (HB5.out.trans (hb6.mono HB5.out.size))
    have hl := lives04_any w6 (HS.out.below HB6.out)
    clear hb6
    go_wp2_with (go_at_call 31; refine (hl).mono ?_; rintro e w' ⟨rfl, hbe⟩)
    go_ret
    exact ⟨rfl, HB6.out.trans (hbe.mono HB6.out.size)⟩
  | some ad =>
    have hx0 : x = 0 := by
      apply Classical.byContradiction
      intro h
      exact absurd (hpt.2 h) (by simp)
    subst hx0
    clear hpt
    go_wp2_with fail
    refine (leftConfig_any nodes long miss good fresh pa sa ba ta pn pc sn sc bn bc tn tc ps ss bs ts _ g1 c1 g2 c2 g3 c3 g4 c4 w5 (HC.out.below HB5.out) HT5.out (by omega) (by omega) (by omega) (by omega)).mono ?_
    rintro e w6 ⟨rfl, hb6⟩
    have HB6 := Lib.hid (HB5.out.trans (hb6.mono HB5.out.size))
    have hl := lives04_any w6 (HS.out.below HB6.out)
    clear hb6
    go_wp2_with (go_at_call 31; refine (hl).mono ?_; rintro e w' ⟨rfl, hbe⟩)
    go_ret
    exact ⟨rfl, HB6.out.trans (hbe.mono HB6.out.size)⟩
end Go.Proofs.YtibncdkekceokaaDoor
