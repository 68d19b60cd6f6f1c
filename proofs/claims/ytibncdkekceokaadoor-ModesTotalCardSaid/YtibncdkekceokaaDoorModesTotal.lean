/- sennitlaw25.ModesTotal: the walk. -/
import Derived.Test.YtibncdkekceokaaDoorLives25
namespace Go.Proofs.YtibncdkekceokaaDoor
open Go.RowKit

/-- One step of the mode. -/
theorem next_step (r md k : Nat) (hr1 : 1 ≤ r) (hr4 : r ≤ 4) (h : k = 0 ∨ md = r ∨ (r < md ∧ md + k ≤ 4)) :
    edgeB md (nextF r md) = true ∧ 1 ≤ nextF r md ∧ nextF r md ≤ 4 ∧ ((if 4 < md then 0 else md) = 0 ∨ (if 4 < md then 0 else md) ≤ nextF r md + 1) ∧ (4 ≤ k → nextF r md = r) ∧ (nextF r md = r ∨ (r < nextF r md ∧ nextF r md + (k + 1) ≤ 4)) := by
  by_cases h5 : 5 ≤ md
  · have e : edgeB md r = true := by simp [edgeB, edgeT, h5]; omega
    have n : nextF r md = r := if_pos e
    rw [n]
    refine ⟨e, hr1, hr4, .inl (if_pos (by omega)), fun _ => rfl, .inl rfl⟩
  · have hmd : md = 0 ∨ md = 1 ∨ md = 2 ∨ md = 3 ∨ md = 4 := by omega
    have hrr : r = 1 ∨ r = 2 ∨ r = 3 ∨ r = 4 := by omega
    rcases hmd with rfl | rfl | rfl | rfl | rfl <;> rcases hrr with rfl | rfl | rfl | rfl <;> simp [nextF, edgeB, edgeT] at h ⊢ <;> omega
/-- Between two rounds. -/
structure TotalRel (w w3 : World) (ins : Nat → Bool) (cmd : Int) (r k md : Nat) (vs : Array Value) (wr : World) : Prop where
  row : wr.heap[w.heap.size + 1]? = some (.cells vs 32 (0, 0))
  is : ViewIs vs ins cmd md
  inv : k = 0 ∨ md = r ∨ (r < md ∧ md + k ≤ 4)
  kept : ∀ g, g ≠ w.heap.size + 1 → g < w3.heap.size → wr.heap[g]? = w3.heap[g]?
  size : w3.heap.size ≤ wr.heap.size
  below : Below w.heap.size w wr

theorem TotalRel.later {w w3 wr w' : World} {ins : Nat → Bool} {cmd : Int} {r k md : Nat} {vs : Array Value} (h : TotalRel w w3 ins cmd r k md vs wr) (hs : w.heap.size + 2 ≤ w3.heap.size) (hb : Below wr.heap.size wr w') : TotalRel w w3 ins cmd r k md vs w' := by
  have h1 := h.size
  have h2 := hb.size
  exact ⟨(hb.block _ (by omega)).trans h.row, h.is, h.inv, fun g hg hg2 => (hb.block g (by omega)).trans (h.kept g hg hg2), by omega, h.below.trans (hb.mono (by omega))⟩
theorem TotalRel.step {w w3 wr : World} {ins : Nat → Bool} {cmd : Int} {r k md t : Nat} {vs : Array Value} (h : TotalRel w w3 ins cmd r k md vs wr) (ht : t ≤ 255) (hi : t = r ∨ (r < t ∧ t + (k + 1) ≤ 4)) :
    TotalRel w w3 ins cmd r (k + 1) t (vs.setIfInBounds 41 (.int .u8 t)) (wr.setCell ⟨w.heap.size + 1, 41, none⟩ (.int .u8 t)) :=
  ⟨heap_set_same h.row 41 _, h.is.set_md t (by omega) (by omega), .inr hi, fun g hg hg2 => (Below.heap_setCell _ _ _ _ hg).trans (h.kept g hg hg2), by simpa [World.setCell] using h.size, h.below.setCell (by simp) _⟩

set_option maxRecDepth 100000 in
set_option maxHeartbeats 8000000 in
theorem modesTotal_walk (nodes long miss good fresh : Int) (pa sa ba ta : Option Addr) (pn pc sn sc bn bc tn tc : Nat) (ps ss bs : List Int) (ts : List (Int × Int × Int)) (vs : Array Value) (ins : Nat → Bool) (cmd : Int) (md : Nat) (w : World) (hs : Signs w) (hE : Edges w) (hC : CfgIn w nodes long miss good fresh pa sa ba ta pn pc sn sc bn bc tn tc ps ss bs ts) (hv : ViewIs vs ins cmd md) :
    Calls Tryd.prog 4 #[.agg #[.int .i64 nodes, .slice pa pn pc, .slice sa sn sc, .int .i64 long, .slice ba bn bc, .slice ta tn tc, .int .i64 miss, .int .i64 good, .int .i64 fresh], .agg vs] w fun e w' => e = .returned (.bool true) ∧ Below w.heap.size w w' := by
  have hb1 := ((Below.refl w.heap.size w).alloc (Nat.le_refl _) (.cells #[.int .i64 nodes, .slice pa pn pc, .slice sa sn sc, .int .i64 long, .slice ba bn bc, .slice ta tn tc, .int .i64 miss, .int .i64 good, .int .i64 fresh] 25)).alloc (by simp) (.cells vs 32)
  have hN := new_any nodes long miss good fresh pa sa ba ta pn pc sn sc bn bc tn tc ps ss bs ts _ (hs.below hb1) (hC.below hb1)
  have hvb : ((w.alloc (.cells #[.int .i64 nodes, .slice pa pn pc, .slice sa sn sc, .int .i64 long, .slice ba bn bc, .slice ta tn tc, .int .i64 miss, .int .i64 good, .int .i64 fresh] 25)).alloc (.cells vs 32)).heap[w.heap.size + 1]? = some (.cells vs 32 (0, 0)) := heap_new _ _ _ (by simp)
  have HV := Lib.hid hvb
  have HB := Lib.hid hb1
  have HS := Lib.hid hs
  have HE := Lib.hid hE
  have HC := Lib.hid hC
  obtain ⟨c, hc⟩ : ∃ c, c = Cfg.mk nodes long miss good fresh ps ss bs ts := ⟨_, rfl⟩
  rw [← hc] at hN
  clear hvb hb1 hs hE hc hC
  go_enter Tryd.func4, Tryd.ntmps4
  go_wp2_with fail
  refine hN.mono ?_
  rintro e w3 hP
  rcases hP with ⟨h0, rfl, hb3⟩ | ⟨h0, b, rfl, hA, hb3⟩
  · have hbl := HB.out.trans (hb3.mono (by simp; omega))
    have hl := lives25_any w3 (HS.out.below hbl) (HE.out.below hbl)
    have hne : (c.err != 0) = true := by simpa using h0
    generalize c.err = x at hne
    have HL := Lib.hid hbl
    clear hb3 hbl h0
    go_wp2_with (go_at_call 21; refine (hl).mono ?_; rintro e w' ⟨rfl, hb⟩)
    go_ret
    exact ⟨rfl, HL.out.trans (hb.mono HL.out.size)⟩
  · have hok := Cfg.ok h0
    have hsz := hb3.size
    simp only [World.size_alloc] at hb3 hsz hA
    have hbl : Below w.heap.size w w3 := HB.out.trans (hb3.mono (by omega))
    have hv3 : w3.heap[w.heap.size + 1]? = some (.cells vs 32 (0, 0)) := (hb3.block _ (by omega)).trans HV.out
    have hsv : (Tryd.prog.info? 32).map (·.size) = some vs.size := by rw [hv.size]; kernel_rfl
    obtain ⟨r, hr⟩ : ∃ r : Nat, asksF (fun k : Nat => fromL c.pairs c.ps (k : Int)) ins cmd = r := ⟨_, (Int.toNat_of_nonneg (by have := asksF_bounds (fun k : Nat => fromL c.pairs c.ps (k : Int)) ins cmd; omega)).symm⟩
    have hrb := asksF_bounds (fun k : Nat => fromL c.pairs c.ps (k : Int)) ins cmd
    rw [hr] at hrb
    have has := asks_any (some ⟨b, 0, none⟩) c c.pairs vs ins cmd md w3 (hA.ptr hok) hv
    rw [hr] at has
    have H3 := Lib.hid (⟨hv3, hbl, hA, hsz⟩ : _ ∧ Below w.heap.size w w3 ∧ _ ∧ _)
    have HR := Lib.hid hr
    clear hv3 hbl hA hb3 hN
    go_wp2_with (first | (refine wpList_load_at (w.heap.size + 1) H3.out.1 rfl Tryd.underlying32 rfl hsv ?_) | fail)
    refine Paused.mk ?_
    go_wp2_with fail
    refine has.mono ?_
    rintro e w4 ⟨rfl, hb4⟩
    have R0 := Lib.hid (show TotalRel w w3 ins cmd r 0 md vs w4 from ⟨(hb4.block _ (by omega)).trans H3.out.1, hv, .inl rfl, fun g _ hg => hb4.block g hg, hb4.size, H3.out.2.1.trans (hb4.mono (by omega))⟩)
    clear hb4 has hsv
    go_wp2
    go_loopw [8, 9, 10] (fun i _ _ wr => ∃ (k md' : Nat) (vs' : Array Value), k ≤ 7 ∧ i = .int .i64 k ∧ Hid (TotalRel w w3 ins cmd r k md' vs' wr)) (fun i _ _ _ => 7 - (intOf i).toNat)
    case atStart => exact ⟨0, md, vs, by omega, by go_num, R0⟩
    case round =>
      obtain ⟨k, md', vs', hk, rfl, HT⟩ := hrel
      by_cases hlt : k < 7
      · have hT := HT.out
        have hbw := hT.below
        have hNet : NetP wr (some ⟨b, 0, none⟩) c c.pairs := (H3.out.2.2.1.kept (fun g hg1 hg2 => hT.kept g (by omega) hg2) hT.size).ptr hok
        have hsv : (Tryd.prog.info? 32).map (·.size) = some vs'.size := by rw [hT.is.size]; kernel_rfl
        have nx := next_any (some ⟨b, 0, none⟩) c c.pairs vs' ins cmd md' r wr hNet hT.is (HE.out.below hbw) HR.out
        have hst := next_step r md' k (by omega) (by omega) hT.inv
        have hmd : md' ≤ 255 := by have := hT.is.hi; omega
        clear hT
        obtain ⟨t, ht⟩ : ∃ t, t = nextF r md' := ⟨_, rfl⟩
        rw [← ht] at nx hst
        clear ht
        obtain ⟨q1, q2, q3, q4, q5, q6⟩ := hst
        have Q6 := Lib.hid q6
        clear q6 hbw hNet
        go_wp2_with (first | (refine wpList_load_at (w.heap.size + 1) HT.out.row rfl Tryd.underlying32 rfl hsv ?_) | fail)
        refine Paused.mk ?_
        go_wp2_with fail
        refine nx.mono ?_
        rintro e w5 ⟨rfl, hb5⟩
        have T5 := HT.out.later hsz hb5
        have c41 : w5.cell? ⟨w.heap.size + 1, 41, none⟩ = some (.int .u8 md') := (heap_cell T5.row 41).trans T5.is.mdc
        have f41 := heap_thawed T5.row 41
        have hed := edge_any md' t w5 (HE.out.below T5.below)
        rw [q1] at hed
        have HT6 := Lib.hid (T5.step (t := t) (by omega) Q6.out)
        clear T5 hb5 nx
        have hsv2 : (Tryd.prog.info? 32).map (·.size) = some (vs'.setIfInBounds 41 (.int .u8 t)).size := by rw [hsv]; simp
        have hNet6 : NetP (w5.setCell ⟨w.heap.size + 1, 41, none⟩ (.int .u8 t)) (some ⟨b, 0, none⟩) c c.pairs := (H3.out.2.2.1.kept (fun g hg1 hg2 => HT6.out.kept g (by omega) hg2) HT6.out.size).ptr hok
        have has6 := asks_any (some ⟨b, 0, none⟩) c c.pairs _ ins cmd t _ hNet6 HT6.out.is
        rw [HR.out] at has6
        have HA6 := Lib.hid has6
        clear hsv hNet6 has6
        have hk4 : (4 ≤ k ∧ t = r) ∨ k < 4 := by
          by_cases h : 4 ≤ k
          · exact .inl ⟨h, q5 h⟩
          · exact .inr (by omega)
        have hfr : 4 < md' ∨ md' = 0 ∨ (md' ≤ 4 ∧ md' ≠ 0 ∧ md' ≤ t + 1) := by
          by_cases h5 : 4 < md'
          · exact .inl h5
          · rw [if_neg h5] at q4
            omega
        clear q5 q4
        have n1 : ¬ ((t : Int) < 1) := by omega
        have n0 : ¬ (t = 0) := by omega
        have n2 : ¬ ((4 : Int) < t) := by omega
        have n3 : ¬ (4 < t) := by omega
        have n9 : ((t : Int) + 1) % 256 = t + 1 := by omega
        rcases hfr with h5 | rfl | ⟨h5, h6, h7⟩
        all_goals rcases hk4 with ⟨hk4, rfl⟩ | hk4
        all_goals
          first
            | (have m1 : ¬ (4 < md') := by omega
               have m2 : ¬ ((4 : Int) < md') := by omega
               have m3 : ¬ ((t : Int) + 1 < md') := by omega
               have m4 : ¬ (t + 1 < md') := by omega
               have m5 : ¬ ((md' : Int) = 0) := by omega)
            | skip
          first
            | (have m6 : ¬ (4 ≤ k) := by omega
               have m7 : ¬ ((4 : Int) ≤ k) := by omega)
            | skip
          go_wp2_with (first | (go_at_call 24; refine (hed).mono ?_; rintro e w' ⟨rfl, rfl⟩) | (refine wpList_load_at (w.heap.size + 1) HT6.out.row rfl Tryd.underlying32 rfl hsv2 ?_) | fail)
          refine Paused.mk ?_
          go_wp2_with fail
          refine HA6.out.mono ?_
          rintro e w7 ⟨rfl, hb7⟩
          have HT7 := Lib.hid (HT6.out.later hsz hb7)
          clear hb7
          go_wp2
          go_roundw
          case rel => exact ⟨k + 1, _, _, by omega, by go_num, HT7⟩
          case measure => simp [intOf]; omega
      · have hl := lives25_any wr (HS.out.below HT.out.below) (HE.out.below HT.out.below)
        go_wp2_with (go_at_call 21; refine (hl).mono ?_; rintro e w' ⟨rfl, hb⟩)
        go_ret
        exact ⟨rfl, HT.out.below.trans (hb.mono HT.out.below.size)⟩
end Go.Proofs.YtibncdkekceokaaDoor
