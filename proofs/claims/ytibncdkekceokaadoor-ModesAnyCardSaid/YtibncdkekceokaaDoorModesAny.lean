/- sennitlaw25.ModesAny: the walk. -/
import Derived.Test.YtibncdkekceokaaDoorLives25
import Derived.Test.YtibncdkekceokaaDoorRef25
import Derived.Test.YtibncdkekceokaaDoorRefNew
namespace Go.Proofs.YtibncdkekceokaaDoor
open Go.RowKit

def viewLoad (v : Value) : Sem Value := Instr.loadAt 32 v
theorem viewLoad_eq (v : Value) : Instr.loadAt 32 v = viewLoad v := rfl
theorem run_viewLoad (W : World) (g : Nat) (vs : Array Value) (h : W.heap[g]? = some (.cells vs 32 (0, 0))) (hs : vs.size = 42) : (viewLoad (.pointer (some ⟨g, 0, none⟩))).run Tryd.prog W = .ok (.agg vs) W :=
  load_block W g _ _ vs (0, 0) _ Tryd.underlying32 rfl (by rw [hs]; kernel_rfl) h
attribute [local go_sem ↓ high] viewLoad_eq
attribute [local go_sem high] run_viewLoad
theorem from_signs {c : Cfg} (h : CfgOK c) (k : Nat) (_hk : k < 8) : (fromL c.pairs c.ps (k : Int) < 0 ↔ fF c.ps.length k < 0) := by
  have h0 : 0 < c.pairs.length := by
    have := h.n4
    rw [c.pairs_length]; omega
  unfold fromL fF
  rw [if_pos h0]
  unfold atL
  by_cases h1 : k < c.ps.length
  · rw [if_pos (by omega), if_pos h1]
    have h2 := (h.pin (c.ps.getD (k : Int).toNat 0) (by
      rw [Int.toNat_natCast, List.getD_eq_getElem?_getD, List.getElem?_eq_getElem h1]
      exact List.getElem_mem _)).1
    omega
  · rw [if_neg (by omega), if_neg h1]
theorem asks_ref {c : Cfg} (h : CfgOK c) (ins : Nat → Bool) (cmd : Int) : asksF (fun k : Nat => fromL c.pairs c.ps (k : Int)) ins cmd = asksF (fF c.ps.length) ins cmd :=
  asksF_congr ins cmd fun k hk => from_signs h k hk
theorem asks_nil (ps : List Int) (ins : Nat → Bool) (cmd : Int) : asksF (fun k : Nat => fromL [] ps (k : Int)) ins cmd = 4 := by
  rw [asksF_congr (g := fF 0) ins cmd fun k _ => by simp [fromL, fF]]
  have h1 := inN_le (fF 0) ins 8
  rw [allN_fF 0 8] at h1
  unfold asksF
  rw [if_pos (.inr (by omega))]
theorem asks_nil' (ins : Nat → Bool) (cmd : Int) : asksF (fF 0) ins cmd = 4 := by
  have h1 := inN_le (fF 0) ins 8
  rw [allN_fF 0 8] at h1
  unfold asksF
  rw [if_pos (.inr (by omega))]

set_option maxRecDepth 100000 in
set_option maxHeartbeats 8000000 in
theorem modesAny_walk (nodes long miss good fresh : Int) (pa sa ba ta : Option Addr) (pn pc sn sc bn bc tn tc : Nat) (ps ss bs : List Int) (ts : List (Int × Int × Int)) (vs : Array Value) (ins : Nat → Bool) (cmd : Int) (md : Nat) (z0 z1 : Nat) (hz0 : z0 ≤ 255) (hz1 : z1 ≤ 255) (w : World) (hs : Signs w) (hE : Edges w) (hC : CfgIn w nodes long miss good fresh pa sa ba ta pn pc sn sc bn bc tn tc ps ss bs ts) (hv : ViewIs vs ins cmd md) :
    Calls Tryd.prog 3 #[.agg #[.int .i64 nodes, .slice pa pn pc, .slice sa sn sc, .int .i64 long, .slice ba bn bc, .slice ta tn tc, .int .i64 miss, .int .i64 good, .int .i64 fresh], .agg vs, .agg #[.int .u8 z0, .int .u8 z1]] w fun e w' => e = .returned (.bool true) ∧ Below w.heap.size w w' := by
  have hb0 := (((Below.refl w.heap.size w).alloc (Nat.le_refl _) (.cells #[.int .i64 nodes, .slice pa pn pc, .slice sa sn sc, .int .i64 long, .slice ba bn bc, .slice ta tn tc, .int .i64 miss, .int .i64 good, .int .i64 fresh] 25)).alloc (by simp) (.cells vs 32)).alloc (by simp; omega) (.cells #[.int .u8 z0, .int .u8 z1] 33)
  have hg0 : (((w.alloc (.cells #[.int .i64 nodes, .slice pa pn pc, .slice sa sn sc, .int .i64 long, .slice ba bn bc, .slice ta tn tc, .int .i64 miss, .int .i64 good, .int .i64 fresh] 25)).alloc (.cells vs 32)).alloc (.cells #[.int .u8 z0, .int .u8 z1] 33)).heap[w.heap.size]? = some (.cells #[.int .i64 nodes, .slice pa pn pc, .slice sa sn sc, .int .i64 long, .slice ba bn bc, .slice ta tn tc, .int .i64 miss, .int .i64 good, .int .i64 fresh] 25 (0, 0)) := (heap_alloc_old _ _ (by simp; omega)).trans (heap_alloc2_old w _ _)
  have hv0 : (((w.alloc (.cells #[.int .i64 nodes, .slice pa pn pc, .slice sa sn sc, .int .i64 long, .slice ba bn bc, .slice ta tn tc, .int .i64 miss, .int .i64 good, .int .i64 fresh] 25)).alloc (.cells vs 32)).alloc (.cells #[.int .u8 z0, .int .u8 z1] 33)).heap[w.heap.size + 1]? = some (.cells vs 32 (0, 0)) := (heap_alloc_old _ _ (by simp)).trans (heap_new _ _ _ (by simp))
  have hy0 : (((w.alloc (.cells #[.int .i64 nodes, .slice pa pn pc, .slice sa sn sc, .int .i64 long, .slice ba bn bc, .slice ta tn tc, .int .i64 miss, .int .i64 good, .int .i64 fresh] 25)).alloc (.cells vs 32)).alloc (.cells #[.int .u8 z0, .int .u8 z1] 33)).heap[w.heap.size + 1 + 1]? = some (.cells #[.int .u8 z0, .int .u8 z1] 33 (0, 0)) := heap_new _ _ _ (by simp)
  have hN := new_any nodes long miss good fresh pa sa ba ta pn pc sn sc bn bc tn tc ps ss bs ts _ (hs.below hb0) (hC.below hb0)
  have hl0 := lives25_any _ (hs.below hb0) (hE.below hb0)
  have HB0 := Lib.hid hb0
  have HG0 := Lib.hid hg0
  have HV0 := Lib.hid hv0
  have HY0 := Lib.hid hy0
  have HS := Lib.hid hs
  have HE := Lib.hid hE
  have HC := Lib.hid hC
  clear hb0 hg0 hv0 hy0 hs hE hC
  by_cases a1 : 60 < pn
  · have d1 : decide (60 < (pn : Int)) = true := decide_eq_true (by omega)
    have d1' : decide (60 < pn) = true := decide_eq_true a1
    clear hN
    go_enter Tryd.func3, Tryd.ntmps3
    go_wp2_with (go_at_call 21; refine (hl0).mono ?_; rintro e w' ⟨rfl, hbe⟩)
    go_ret
    exact ⟨rfl, HB0.out.trans (hbe.mono HB0.out.size)⟩
  have d1 : decide (60 < (pn : Int)) = false := decide_eq_false (by omega)
  have d1' : decide (60 < pn) = false := decide_eq_false a1
  by_cases a2 : 60 < sn
  · have d2 : decide (60 < (sn : Int)) = true := decide_eq_true (by omega)
    have d2' : decide (60 < sn) = true := decide_eq_true a2
    clear hN
    go_enter Tryd.func3, Tryd.ntmps3
    go_wp2_with (go_at_call 21; refine (hl0).mono ?_; rintro e w' ⟨rfl, hbe⟩)
    go_ret
    exact ⟨rfl, HB0.out.trans (hbe.mono HB0.out.size)⟩
  have d2 : decide (60 < (sn : Int)) = false := decide_eq_false (by omega)
  have d2' : decide (60 < sn) = false := decide_eq_false a2
  by_cases a3 : 60 < bn
  · have d3 : decide (60 < (bn : Int)) = true := decide_eq_true (by omega)
    have d3' : decide (60 < bn) = true := decide_eq_true a3
    clear hN
    go_enter Tryd.func3, Tryd.ntmps3
    go_wp2_with (go_at_call 21; refine (hl0).mono ?_; rintro e w' ⟨rfl, hbe⟩)
    go_ret
    exact ⟨rfl, HB0.out.trans (hbe.mono HB0.out.size)⟩
  have d3 : decide (60 < (bn : Int)) = false := decide_eq_false (by omega)
  have d3' : decide (60 < bn) = false := decide_eq_false a3
  by_cases a4 : 60 < tn
  · have d4 : decide (60 < (tn : Int)) = true := decide_eq_true (by omega)
    have d4' : decide (60 < tn) = true := decide_eq_true a4
    clear hN
    go_enter Tryd.func3, Tryd.ntmps3
    go_wp2_with (go_at_call 21; refine (hl0).mono ?_; rintro e w' ⟨rfl, hbe⟩)
    go_ret
    exact ⟨rfl, HB0.out.trans (hbe.mono HB0.out.size)⟩
  have d4 : decide (60 < (tn : Int)) = false := decide_eq_false (by omega)
  have d4' : decide (60 < tn) = false := decide_eq_false a4
  clear hl0
  obtain ⟨c, hc⟩ : ∃ c, c = Cfg.mk nodes long miss good fresh ps ss bs ts := ⟨_, rfl⟩
  rw [← hc] at hN
  have hcp : c.ps.length = pn := by rw [hc]; exact HC.out.rp.len
  have HCC := Lib.hid hc
  have HCP := Lib.hid hcp
  clear hc hcp
  go_enter Tryd.func3, Tryd.ntmps3
  go_wp2_with fail
  refine hN.mono ?_
  rintro e w3 hP
  clear hN d1 d1' d2 d2' d3 d3' d4 d4' a1 a2 a3 a4
  rcases hP with ⟨h0, rfl, hb3⟩ | ⟨h0, b, rfl, hA, hb3⟩
  · have hs3 := hb3.size
    simp only [World.size_alloc] at hb3 hs3
    have HB3 := Lib.hid (HB0.out.trans (hb3.mono (by omega)))
    have HG3 := Lib.hid ((hb3.block _ (by omega)).trans HG0.out)
    have HV3 := Lib.hid ((hb3.block _ (by omega)).trans HV0.out)
    have HY3 := Lib.hid ((hb3.block _ (by omega)).trans HY0.out)
    have hR : ∀ W, Below w3.heap.size w3 W → Calls Tryd.prog 23 #[.agg #[.int .i64 nodes, .slice pa pn pc, .slice sa sn sc, .int .i64 long, .slice ba bn bc, .slice ta tn tc, .int .i64 miss, .int .i64 good, .int .i64 fresh]] W fun e w' => e = .returned (.int .i64 c.err) ∧ Below w3.heap.size w3 w' := fun W hb => by
      have h := refnew_any nodes long miss good fresh pa sa ba ta pn pc sn sc bn bc tn tc ps ss bs ts W (HC.out.below (HB3.out.trans (hb.mono (by omega))))
      rw [← HCC.out] at h
      exact h.mono fun e w' ⟨h1, h2⟩ => ⟨h1, hb.trans (h2.mono hb.size)⟩
    have hne : (c.err != 0) = true := by simpa using h0
    generalize c.err = x at hne hR
    clear hb3 h0
    have k0 : w3.cell? ⟨w.heap.size, 0, none⟩ = some (.int .i64 nodes) := heap_cell HG3.out 0
    have k1 : w3.cell? ⟨w.heap.size, 1, none⟩ = some (.slice pa pn pc) := heap_cell HG3.out 1
    have k2 : w3.cell? ⟨w.heap.size, 2, none⟩ = some (.slice sa sn sc) := heap_cell HG3.out 2
    have k3 : w3.cell? ⟨w.heap.size, 3, none⟩ = some (.int .i64 long) := heap_cell HG3.out 3
    have k4 : w3.cell? ⟨w.heap.size, 4, none⟩ = some (.slice ba bn bc) := heap_cell HG3.out 4
    have k5 : w3.cell? ⟨w.heap.size, 5, none⟩ = some (.slice ta tn tc) := heap_cell HG3.out 5
    have k6 : w3.cell? ⟨w.heap.size, 6, none⟩ = some (.int .i64 miss) := heap_cell HG3.out 6
    have k7 : w3.cell? ⟨w.heap.size, 7, none⟩ = some (.int .i64 good) := heap_cell HG3.out 7
    have k8 : w3.cell? ⟨w.heap.size, 8, none⟩ = some (.int .i64 fresh) := heap_cell HG3.out 8
    have y0 : w3.cell? ⟨w.heap.size + 1 + 1, 0, none⟩ = some (.int .u8 z0) := heap_cell HY3.out 0
    have y1 : w3.cell? ⟨w.heap.size + 1 + 1, 1, none⟩ = some (.int .u8 z1) := heap_cell HY3.out 1
    have keep3 : ∀ W, Below w3.heap.size w3 W → W.cell? ⟨w.heap.size, 0, none⟩ = some (.int .i64 nodes) ∧ W.cell? ⟨w.heap.size, 1, none⟩ = some (.slice pa pn pc) ∧ W.cell? ⟨w.heap.size, 2, none⟩ = some (.slice sa sn sc) ∧ W.cell? ⟨w.heap.size, 3, none⟩ = some (.int .i64 long) ∧ W.cell? ⟨w.heap.size, 4, none⟩ = some (.slice ba bn bc) ∧ W.cell? ⟨w.heap.size, 5, none⟩ = some (.slice ta tn tc) ∧ W.cell? ⟨w.heap.size, 6, none⟩ = some (.int .i64 miss) ∧ W.cell? ⟨w.heap.size, 7, none⟩ = some (.int .i64 good) ∧ W.cell? ⟨w.heap.size, 8, none⟩ = some (.int .i64 fresh) ∧ W.cell? ⟨w.heap.size + 1 + 1, 0, none⟩ = some (.int .u8 z0) ∧ W.cell? ⟨w.heap.size + 1 + 1, 1, none⟩ = some (.int .u8 z1) ∧ Hid (Below w3.heap.size w3 W) := fun W hb =>
      have q : ∀ (g o : Nat) (v : Value), g < w3.heap.size → w3.cell? ⟨g, o, none⟩ = some v → W.cell? ⟨g, o, none⟩ = some v := fun g o v h1 h2 => (hb.cell (p := ⟨g, o, none⟩) h1).trans h2
      ⟨q _ _ _ (by omega) k0, q _ _ _ (by omega) k1, q _ _ _ (by omega) k2, q _ _ _ (by omega) k3, q _ _ _ (by omega) k4, q _ _ _ (by omega) k5, q _ _ _ (by omega) k6, q _ _ _ (by omega) k7, q _ _ _ (by omega) k8, q _ _ _ (by omega) y0, q _ _ _ (by omega) y1, Lib.hid hb⟩
    have HD3 := Lib.hid (Below.refl w3.heap.size w3).drew
    have K3 := Lib.hid keep3
    have HNR := Lib.hid hR
    clear keep3 hR
    go_wp2
    go_region_held3 (fun W => W.cell? ⟨w.heap.size, 0, none⟩ = some (.int .i64 nodes) ∧ W.cell? ⟨w.heap.size, 1, none⟩ = some (.slice pa pn pc) ∧ W.cell? ⟨w.heap.size, 2, none⟩ = some (.slice sa sn sc) ∧ W.cell? ⟨w.heap.size, 3, none⟩ = some (.int .i64 long) ∧ W.cell? ⟨w.heap.size, 4, none⟩ = some (.slice ba bn bc) ∧ W.cell? ⟨w.heap.size, 5, none⟩ = some (.slice ta tn tc) ∧ W.cell? ⟨w.heap.size, 6, none⟩ = some (.int .i64 miss) ∧ W.cell? ⟨w.heap.size, 7, none⟩ = some (.int .i64 good) ∧ W.cell? ⟨w.heap.size, 8, none⟩ = some (.int .i64 fresh) ∧ W.cell? ⟨w.heap.size + 1 + 1, 0, none⟩ = some (.int .u8 z0) ∧ W.cell? ⟨w.heap.size + 1 + 1, 1, none⟩ = some (.int .u8 z1) ∧ Hid (Below w3.heap.size w3 W)) (first | exact K3.out _ HD3.out | exact K3.out _ hb4 | fail) (first | (go_at_call 23; refine (HNR.out _ HD3.out).mono ?_; rintro e w4 ⟨rfl, hb4⟩) | (go_at_call 24; refine (edge_any _ _ _ (HE.out.below (HB3.out.trans (hb4.mono (by omega))))).mono ?_; rintro e w' ⟨rfl, rfl⟩) | (go_at_call 25; refine (refedge_any _ _ _ hz0 hz1).mono ?_; rintro e w' ⟨rfl, rfl⟩) | fail)
    have HB4 := Lib.hid (HB3.out.trans (hb4.mono (by omega)))
    have hs4 := hb4.size
    have HV4 := Lib.hid ((hb4.block _ (by omega)).trans HV3.out)
    have hmd255 : md ≤ 255 := by have := hv.hi; omega
    clear hb4 HG3 HV3 HY3 HNR HD3 K3 k0 k1 k2 k3 k4 k5 k6 k7 k8 y0 y1
    go_wp2_with fail
    obtain ⟨g, hg⟩ : ∃ g, g = w4.heap.size := ⟨_, rfl⟩
    obtain ⟨w5, hw5⟩ : ∃ w5, w5 = w4.alloc (.cells #[.int .i64 0, .slice none 0 0, .slice none 0 0, .int .i64 0, .slice none 0 0, .slice none 0 0, .int .i64 0, .int .i64 0, .int .i64 0] 25) := ⟨_, rfl⟩
    rw [← hw5, ← hg]
    have hg5 : w5.heap[g]? = some (.cells #[.int .i64 0, .slice none 0 0, .slice none 0 0, .int .i64 0, .slice none 0 0, .slice none 0 0, .int .i64 0, .int .i64 0, .int .i64 0] 25 (0, 0)) := by rw [hw5]; exact heap_new _ _ _ hg
    have hb5 : Below w4.heap.size w4 w5 := by rw [hw5]; exact (Below.refl w4.heap.size w4).alloc (Nat.le_refl _) _
    have hs5 : w5.heap.size = g + 1 := by rw [hw5, hg]; simp
    have HB5 := Lib.hid (HB4.out.trans (hb5.mono (by omega)))
    have HV5 := Lib.hid ((hb5.block (w.heap.size + 1) (by omega)).trans HV4.out)
    have keep5 : ∀ W, Below w5.heap.size w5 W → W.heap[w.heap.size + 1]? = some (.cells vs 32 (0, 0)) ∧ vs.size = 42 ∧ W.cell? ⟨g, 0, none⟩ = some (.int .i64 0) ∧ W.cell? ⟨g, 1, none⟩ = some (.slice none 0 0) ∧ W.cell? ⟨g, 2, none⟩ = some (.slice none 0 0) ∧ W.cell? ⟨g, 3, none⟩ = some (.int .i64 0) ∧ W.cell? ⟨g, 4, none⟩ = some (.slice none 0 0) ∧ W.cell? ⟨g, 5, none⟩ = some (.slice none 0 0) ∧ W.cell? ⟨g, 6, none⟩ = some (.int .i64 0) ∧ W.cell? ⟨g, 7, none⟩ = some (.int .i64 0) ∧ W.cell? ⟨g, 8, none⟩ = some (.int .i64 0) ∧ Hid (Below w5.heap.size w5 W) := fun W hb =>
      have q : ∀ (o : Nat) (v : Value), w5.cell? ⟨g, o, none⟩ = some v → W.cell? ⟨g, o, none⟩ = some v := fun o v h2 => (hb.cell (p := ⟨g, o, none⟩) (by simp; omega)).trans h2
      ⟨(hb.block _ (by omega)).trans HV5.out, hv.size, q _ _ (heap_cell hg5 0), q _ _ (heap_cell hg5 1), q _ _ (heap_cell hg5 2), q _ _ (heap_cell hg5 3), q _ _ (heap_cell hg5 4), q _ _ (heap_cell hg5 5), q _ _ (heap_cell hg5 6), q _ _ (heap_cell hg5 7), q _ _ (heap_cell hg5 8), Lib.hid hb⟩
    have has : ∀ W, Below w5.heap.size w5 W → Calls Tryd.prog 26 #[.pointer none, .agg vs] W fun e w' => e = .returned (.int .u8 4) ∧ Below w5.heap.size w5 w' := fun W hb => by
      have h := asks_any none c [] vs ins cmd md W (.inl ⟨rfl, rfl⟩) hv
      rw [asks_nil] at h
      exact h.mono fun e w' ⟨h1, h2⟩ => ⟨h1, hb.trans (h2.mono hb.size)⟩
    have hnx : ∀ W, Below w5.heap.size w5 W → Calls Tryd.prog 27 #[.pointer none, .agg vs] W fun e w' => e = .returned (.int .u8 (nextF 4 md : Nat)) ∧ Below w5.heap.size w5 w' := fun W hb => by
      have h := next_any none c [] vs ins cmd md 4 W (.inl ⟨rfl, rfl⟩) hv (HE.out.below (HB5.out.trans (hb.mono (by omega)))) (asks_nil _ _ _)
      exact h.mono fun e w' ⟨h1, h2⟩ => ⟨h1, hb.trans (h2.mono hb.size)⟩
    have hrn : ∀ W, Below w5.heap.size w5 W → Calls Tryd.prog 28 #[.agg #[.int .i64 0, .slice none 0 0, .slice none 0 0, .int .i64 0, .slice none 0 0, .slice none 0 0, .int .i64 0, .int .i64 0, .int .i64 0], .agg vs] W fun e w' => e = .returned (.int .i64 (nextF 4 md : Nat)) ∧ Below w5.heap.size w5 w' := fun W hb => by
      have h := refnext_any 0 0 0 0 0 none none none none 0 0 0 0 0 0 0 0 vs ins cmd md 4 W (by omega) hv (asks_nil' _ _)
      exact h.mono fun e w' ⟨h1, h2⟩ => ⟨h1, hb.trans (h2.mono hb.size)⟩
    have hli : ∀ W, Below w5.heap.size w5 W → Calls Tryd.prog 21 #[] W fun e w' => e = .returned (.bool true) ∧ Below w5.heap.size w5 w' := fun W hb => by
      have hbw := HB5.out.trans (hb.mono (by omega))
      have h := lives25_any W (HS.out.below hbw) (HE.out.below hbw)
      exact h.mono fun e w' ⟨h1, h2⟩ => ⟨h1, hb.trans (h2.mono hb.size)⟩
    have HD5 := Lib.hid (Below.refl w5.heap.size w5).drew
    have K5 := Lib.hid keep5
    have HA1 := Lib.hid has
    have HA2 := Lib.hid hnx
    have HA3 := Lib.hid hrn
    have HA4 := Lib.hid hli
    obtain ⟨q, hq⟩ : ∃ q : Nat, q = nextF 4 md := ⟨_, rfl⟩
    rw [← hq] at HA2 HA3
    have hq255 : q ≤ 255 := by rw [hq]; unfold nextF; split <;> omega
    have hqw : IntKind.i64.wrap (q : Int) = q := by rw [IntKind.wrap_i64]; omega
    clear hq keep5 has hnx hrn hli hb5 hw5 hg hg5 HV5 hs5
    go_region_held3 (fun W => W.heap[w.heap.size + 1]? = some (.cells vs 32 (0, 0)) ∧ vs.size = 42 ∧ W.cell? ⟨g, 0, none⟩ = some (.int .i64 0) ∧ W.cell? ⟨g, 1, none⟩ = some (.slice none 0 0) ∧ W.cell? ⟨g, 2, none⟩ = some (.slice none 0 0) ∧ W.cell? ⟨g, 3, none⟩ = some (.int .i64 0) ∧ W.cell? ⟨g, 4, none⟩ = some (.slice none 0 0) ∧ W.cell? ⟨g, 5, none⟩ = some (.slice none 0 0) ∧ W.cell? ⟨g, 6, none⟩ = some (.int .i64 0) ∧ W.cell? ⟨g, 7, none⟩ = some (.int .i64 0) ∧ W.cell? ⟨g, 8, none⟩ = some (.int .i64 0) ∧ Hid (Below w5.heap.size w5 W)) (first | exact K5.out _ HD5.out | exact K5.out _ hl9 | exact K5.out _ hr9 | exact K5.out _ hn9 | exact K5.out _ ha9 | fail) (first | (go_at_call 26; refine (HA1.out _ HD5.out).mono ?_; rintro e w9 ⟨rfl, ha9⟩) | (go_at_call 27; refine (HA2.out _ ha9).mono ?_; rintro e w9 ⟨rfl, hn9⟩) | (go_at_call 28; refine (HA3.out _ hn9).mono ?_; rintro e w9 ⟨rfl, hr9⟩) | (go_at_call 21; refine (HA4.out _ hr9).mono ?_; rintro e w9 ⟨rfl, hl9⟩) | fail)
    go_wp2
    go_ret
    exact ⟨rfl, HB5.out.trans (hl9.mono (by have := HB5.out.size; omega))⟩
  · have hok := Cfg.ok h0
    have hs3 := hb3.size
    simp only [World.size_alloc] at hb3 hs3 hA
    have HB3 := Lib.hid (HB0.out.trans (hb3.mono (by omega)))
    have HG3 := Lib.hid ((hb3.block _ (by omega)).trans HG0.out)
    have HV3 := Lib.hid ((hb3.block _ (by omega)).trans HV0.out)
    have HY3 := Lib.hid ((hb3.block _ (by omega)).trans HY0.out)
    have HNP := Lib.hid (hA.ptr hok)
    have hR : ∀ W, Below w3.heap.size w3 W → Calls Tryd.prog 23 #[.agg #[.int .i64 nodes, .slice pa pn pc, .slice sa sn sc, .int .i64 long, .slice ba bn bc, .slice ta tn tc, .int .i64 miss, .int .i64 good, .int .i64 fresh]] W fun e w' => e = .returned (.int .i64 0) ∧ Below w3.heap.size w3 w' := fun W hb => by
      have h := refnew_any nodes long miss good fresh pa sa ba ta pn pc sn sc bn bc tn tc ps ss bs ts W (HC.out.below (HB3.out.trans (hb.mono (by omega))))
      rw [← HCC.out, h0] at h
      exact h.mono fun e w' ⟨h1, h2⟩ => ⟨h1, hb.trans (h2.mono hb.size)⟩
    clear hb3 h0 hA
    have k0 : w3.cell? ⟨w.heap.size, 0, none⟩ = some (.int .i64 nodes) := heap_cell HG3.out 0
    have k1 : w3.cell? ⟨w.heap.size, 1, none⟩ = some (.slice pa pn pc) := heap_cell HG3.out 1
    have k2 : w3.cell? ⟨w.heap.size, 2, none⟩ = some (.slice sa sn sc) := heap_cell HG3.out 2
    have k3 : w3.cell? ⟨w.heap.size, 3, none⟩ = some (.int .i64 long) := heap_cell HG3.out 3
    have k4 : w3.cell? ⟨w.heap.size, 4, none⟩ = some (.slice ba bn bc) := heap_cell HG3.out 4
    have k5 : w3.cell? ⟨w.heap.size, 5, none⟩ = some (.slice ta tn tc) := heap_cell HG3.out 5
    have k6 : w3.cell? ⟨w.heap.size, 6, none⟩ = some (.int .i64 miss) := heap_cell HG3.out 6
    have k7 : w3.cell? ⟨w.heap.size, 7, none⟩ = some (.int .i64 good) := heap_cell HG3.out 7
    have k8 : w3.cell? ⟨w.heap.size, 8, none⟩ = some (.int .i64 fresh) := heap_cell HG3.out 8
    have y0 : w3.cell? ⟨w.heap.size + 1 + 1, 0, none⟩ = some (.int .u8 z0) := heap_cell HY3.out 0
    have y1 : w3.cell? ⟨w.heap.size + 1 + 1, 1, none⟩ = some (.int .u8 z1) := heap_cell HY3.out 1
    have keepA : ∀ W, Below w3.heap.size w3 W → W.cell? ⟨w.heap.size, 0, none⟩ = some (.int .i64 nodes) ∧ W.cell? ⟨w.heap.size, 1, none⟩ = some (.slice pa pn pc) ∧ W.cell? ⟨w.heap.size, 2, none⟩ = some (.slice sa sn sc) ∧ W.cell? ⟨w.heap.size, 3, none⟩ = some (.int .i64 long) ∧ W.cell? ⟨w.heap.size, 4, none⟩ = some (.slice ba bn bc) ∧ W.cell? ⟨w.heap.size, 5, none⟩ = some (.slice ta tn tc) ∧ W.cell? ⟨w.heap.size, 6, none⟩ = some (.int .i64 miss) ∧ W.cell? ⟨w.heap.size, 7, none⟩ = some (.int .i64 good) ∧ W.cell? ⟨w.heap.size, 8, none⟩ = some (.int .i64 fresh) ∧ W.cell? ⟨w.heap.size + 1 + 1, 0, none⟩ = some (.int .u8 z0) ∧ W.cell? ⟨w.heap.size + 1 + 1, 1, none⟩ = some (.int .u8 z1) ∧ Hid (Below w3.heap.size w3 W) := fun W hb =>
      have q : ∀ (g o : Nat) (v : Value), g < w3.heap.size → w3.cell? ⟨g, o, none⟩ = some v → W.cell? ⟨g, o, none⟩ = some v := fun g o v h1 h2 => (hb.cell (p := ⟨g, o, none⟩) h1).trans h2
      ⟨q _ _ _ (by omega) k0, q _ _ _ (by omega) k1, q _ _ _ (by omega) k2, q _ _ _ (by omega) k3, q _ _ _ (by omega) k4, q _ _ _ (by omega) k5, q _ _ _ (by omega) k6, q _ _ _ (by omega) k7, q _ _ _ (by omega) k8, q _ _ _ (by omega) y0, q _ _ _ (by omega) y1, Lib.hid hb⟩
    have keepB : ∀ W, Below w3.heap.size w3 W → W.heap[w.heap.size + 1]? = some (.cells vs 32 (0, 0)) ∧ vs.size = 42 ∧ W.cell? ⟨w.heap.size, 0, none⟩ = some (.int .i64 nodes) ∧ W.cell? ⟨w.heap.size, 1, none⟩ = some (.slice pa pn pc) ∧ W.cell? ⟨w.heap.size, 2, none⟩ = some (.slice sa sn sc) ∧ W.cell? ⟨w.heap.size, 3, none⟩ = some (.int .i64 long) ∧ W.cell? ⟨w.heap.size, 4, none⟩ = some (.slice ba bn bc) ∧ W.cell? ⟨w.heap.size, 5, none⟩ = some (.slice ta tn tc) ∧ W.cell? ⟨w.heap.size, 6, none⟩ = some (.int .i64 miss) ∧ W.cell? ⟨w.heap.size, 7, none⟩ = some (.int .i64 good) ∧ W.cell? ⟨w.heap.size, 8, none⟩ = some (.int .i64 fresh) ∧ Hid (Below w3.heap.size w3 W) := fun W hb =>
      have q : ∀ (g o : Nat) (v : Value), g < w3.heap.size → w3.cell? ⟨g, o, none⟩ = some v → W.cell? ⟨g, o, none⟩ = some v := fun g o v h1 h2 => (hb.cell (p := ⟨g, o, none⟩) h1).trans h2
      ⟨(hb.block _ (by omega)).trans HV3.out, hv.size, q _ _ _ (by omega) k0, q _ _ _ (by omega) k1, q _ _ _ (by omega) k2, q _ _ _ (by omega) k3, q _ _ _ (by omega) k4, q _ _ _ (by omega) k5, q _ _ _ (by omega) k6, q _ _ _ (by omega) k7, q _ _ _ (by omega) k8, Lib.hid hb⟩
    obtain ⟨r, hr⟩ : ∃ r : Nat, asksF (fF pn) ins cmd = r := ⟨_, (Int.toNat_of_nonneg (by have := asksF_bounds (fF pn) ins cmd; omega)).symm⟩
    have hrb := asksF_bounds (fF pn) ins cmd
    rw [hr] at hrb
    have hrp : asksF (fun k : Nat => fromL c.pairs c.ps (k : Int)) ins cmd = r := by rw [asks_ref hok, HCP.out, hr]
    have hp8 : pn ≤ 8 := by have := hok.p8; have := HCP.out; omega
    have hmd255 : md ≤ 255 := by have := hv.hi; omega
    have has : ∀ W, Below w3.heap.size w3 W → Calls Tryd.prog 26 #[.pointer (some ⟨b, 0, none⟩), .agg vs] W fun e w' => e = .returned (.int .u8 r) ∧ Below w3.heap.size w3 w' := fun W hb => by
      have h := asks_any _ c c.pairs vs ins cmd md W (HNP.out.below hb) hv
      rw [hrp] at h
      exact h.mono fun e w' ⟨h1, h2⟩ => ⟨h1, hb.trans (h2.mono hb.size)⟩
    have hnx : ∀ W, Below w3.heap.size w3 W → Calls Tryd.prog 27 #[.pointer (some ⟨b, 0, none⟩), .agg vs] W fun e w' => e = .returned (.int .u8 (nextF r md : Nat)) ∧ Below w3.heap.size w3 w' := fun W hb => by
      have h := next_any _ c c.pairs vs ins cmd md r W (HNP.out.below hb) hv (HE.out.below (HB3.out.trans (hb.mono (by omega)))) hrp
      exact h.mono fun e w' ⟨h1, h2⟩ => ⟨h1, hb.trans (h2.mono hb.size)⟩
    have hra : ∀ W, Below w3.heap.size w3 W → Calls Tryd.prog 29 #[.agg #[.int .i64 nodes, .slice pa pn pc, .slice sa sn sc, .int .i64 long, .slice ba bn bc, .slice ta tn tc, .int .i64 miss, .int .i64 good, .int .i64 fresh], .agg vs] W fun e w' => e = .returned (.int .i64 r) ∧ Below w3.heap.size w3 w' := fun W hb => by
      have h := refasks_any nodes long miss good fresh pa sa ba ta pn pc sn sc bn bc tn tc vs ins cmd md W hp8 hv
      rw [hr] at h
      exact h.mono fun e w' ⟨h1, h2⟩ => ⟨h1, hb.trans (h2.mono hb.size)⟩
    have hrn : ∀ W, Below w3.heap.size w3 W → Calls Tryd.prog 28 #[.agg #[.int .i64 nodes, .slice pa pn pc, .slice sa sn sc, .int .i64 long, .slice ba bn bc, .slice ta tn tc, .int .i64 miss, .int .i64 good, .int .i64 fresh], .agg vs] W fun e w' => e = .returned (.int .i64 (nextF r md : Nat)) ∧ Below w3.heap.size w3 w' := fun W hb => by
      have h := refnext_any nodes long miss good fresh pa sa ba ta pn pc sn sc bn bc tn tc vs ins cmd md r W hp8 hv hr
      exact h.mono fun e w' ⟨h1, h2⟩ => ⟨h1, hb.trans (h2.mono hb.size)⟩
    have hli : ∀ W, Below w3.heap.size w3 W → Calls Tryd.prog 21 #[] W fun e w' => e = .returned (.bool true) ∧ Below w3.heap.size w3 w' := fun W hb => by
      have hbw := HB3.out.trans (hb.mono (by omega))
      have h := lives25_any W (HS.out.below hbw) (HE.out.below hbw)
      exact h.mono fun e w' ⟨h1, h2⟩ => ⟨h1, hb.trans (h2.mono hb.size)⟩
    have HD3 := Lib.hid (Below.refl w3.heap.size w3).drew
    have KA := Lib.hid keepA
    have KB := Lib.hid keepB
    have HNR := Lib.hid hR
    have HA1 := Lib.hid has
    have HA2 := Lib.hid hnx
    have HA3 := Lib.hid hra
    have HA4 := Lib.hid hrn
    have HA5 := Lib.hid hli
    obtain ⟨q, hq⟩ : ∃ q : Nat, q = nextF r md := ⟨_, rfl⟩
    rw [← hq] at HA2 HA4
    have hq255 : q ≤ 255 := by rw [hq]; unfold nextF; split <;> omega
    have hqw : IntKind.i64.wrap (q : Int) = q := by rw [IntKind.wrap_i64]; omega
    have hrw : IntKind.i64.wrap (r : Int) = r := by rw [IntKind.wrap_i64]; omega
    clear hq keepA keepB hR has hnx hra hrn hli hr hrp hrb
    go_wp2
    go_region_held3 (fun W => W.cell? ⟨w.heap.size, 0, none⟩ = some (.int .i64 nodes) ∧ W.cell? ⟨w.heap.size, 1, none⟩ = some (.slice pa pn pc) ∧ W.cell? ⟨w.heap.size, 2, none⟩ = some (.slice sa sn sc) ∧ W.cell? ⟨w.heap.size, 3, none⟩ = some (.int .i64 long) ∧ W.cell? ⟨w.heap.size, 4, none⟩ = some (.slice ba bn bc) ∧ W.cell? ⟨w.heap.size, 5, none⟩ = some (.slice ta tn tc) ∧ W.cell? ⟨w.heap.size, 6, none⟩ = some (.int .i64 miss) ∧ W.cell? ⟨w.heap.size, 7, none⟩ = some (.int .i64 good) ∧ W.cell? ⟨w.heap.size, 8, none⟩ = some (.int .i64 fresh) ∧ W.cell? ⟨w.heap.size + 1 + 1, 0, none⟩ = some (.int .u8 z0) ∧ W.cell? ⟨w.heap.size + 1 + 1, 1, none⟩ = some (.int .u8 z1) ∧ Hid (Below w3.heap.size w3 W)) (first | exact KA.out _ HD3.out | exact KA.out _ hb4 | fail) (first | (go_at_call 23; refine (HNR.out _ HD3.out).mono ?_; rintro e w4 ⟨rfl, hb4⟩) | (go_at_call 24; refine (edge_any _ _ _ (HE.out.below (HB3.out.trans (hb4.mono (by omega))))).mono ?_; rintro e w' ⟨rfl, rfl⟩) | (go_at_call 25; refine (refedge_any _ _ _ hz0 hz1).mono ?_; rintro e w' ⟨rfl, rfl⟩) | fail)
    have HB4 := Lib.hid hb4
    have HD4 := Lib.hid hb4.drew
    clear hb4 k0 k1 k2 k3 k4 k5 k6 k7 k8 y0 y1
    go_wp2_with fail
    go_region_held3 (fun W => W.heap[w.heap.size + 1]? = some (.cells vs 32 (0, 0)) ∧ vs.size = 42 ∧ W.cell? ⟨w.heap.size, 0, none⟩ = some (.int .i64 nodes) ∧ W.cell? ⟨w.heap.size, 1, none⟩ = some (.slice pa pn pc) ∧ W.cell? ⟨w.heap.size, 2, none⟩ = some (.slice sa sn sc) ∧ W.cell? ⟨w.heap.size, 3, none⟩ = some (.int .i64 long) ∧ W.cell? ⟨w.heap.size, 4, none⟩ = some (.slice ba bn bc) ∧ W.cell? ⟨w.heap.size, 5, none⟩ = some (.slice ta tn tc) ∧ W.cell? ⟨w.heap.size, 6, none⟩ = some (.int .i64 miss) ∧ W.cell? ⟨w.heap.size, 7, none⟩ = some (.int .i64 good) ∧ W.cell? ⟨w.heap.size, 8, none⟩ = some (.int .i64 fresh) ∧ Hid (Below w3.heap.size w3 W)) (first | exact KB.out _ HD4.out | exact KB.out _ hl9 | exact KB.out _ hr9 | exact KB.out _ hn9 | exact KB.out _ hs9 | exact KB.out _ ha9 | fail) (first | (go_at_call 26; refine (HA1.out _ HD4.out).mono ?_; rintro e w9 ⟨rfl, ha9⟩) | (go_at_call 29; refine (HA3.out _ ha9).mono ?_; rintro e w9 ⟨rfl, hs9⟩) | (go_at_call 27; refine (HA2.out _ hs9).mono ?_; rintro e w9 ⟨rfl, hn9⟩) | (go_at_call 28; refine (HA4.out _ hn9).mono ?_; rintro e w9 ⟨rfl, hr9⟩) | (go_at_call 21; refine (HA5.out _ hr9).mono ?_; rintro e w9 ⟨rfl, hl9⟩) | fail)
    go_wp2
    go_ret
    exact ⟨rfl, HB3.out.trans (hl9.mono (by have := HB3.out.size; omega))⟩
end Go.Proofs.YtibncdkekceokaaDoor
