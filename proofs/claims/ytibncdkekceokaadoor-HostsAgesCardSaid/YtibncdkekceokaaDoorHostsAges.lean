/- sennitlaw19.HostsAges: the walk. -/
import Derived.Test.YtibncdkekceokaaDoorLives19
namespace Go.Proofs.YtibncdkekceokaaDoor
open Go.RowKit

/-- The plain config, so long fresh. -/
def freshC (F : Int) : Cfg := ⟨4, 120, 3, 3, F, [0, 2], [0, 1], [0, 0, 0, 0], []⟩
theorem freshC_err (n : Nat) : (freshC (1 + ((n % 100 : Nat) : Int))).err = 0 := by
  have h : ∀ k : Fin 100, (freshC (1 + (k.val : Int))).err = 0 := by decide +kernel
  exact h ⟨n % 100, Nat.mod_lt _ (by omega)⟩
attribute [local go_sem ↓ high] cfgLoad_eq
attribute [local go_sem high] run_cfgLoad
attribute [local go_sem ↓ high] payLoad_eq
attribute [local go_sem high] run_payLoad
set_option maxRecDepth 100000 in
set_option maxHeartbeats 8000000 in
theorem hostsAges_walk (fr : Nat) (hfr : fr ≤ 255) (pk ps pq pv : Int) (ro : Nat) (hro : ro ≤ 4294967295) (w : World) (hs : Signs w) :
    Calls Tryd.prog 20 #[.int .u8 fr, .agg #[.int .u8 pk, .int .u8 ps, .int .u32 pq, .int .u32 pv], .int .u32 ro] w fun e w' => e = .returned (.bool true) ∧ Below w.heap.size w w' := by
  have HS := Lib.hid hs
  clear hs
  obtain ⟨F, hF⟩ : ∃ F : Int, F = 1 + ((fr % 100 : Nat) : Int) := ⟨_, rfl⟩
  have hFe : (freshC F).err = 0 := by rw [hF]; exact freshC_err fr
  have hF1 : 1 ≤ F ∧ F ≤ 100 := by omega
  obtain ⟨r, hr⟩ : ∃ r : Int, r = ((ro % 1000001 : Nat) : Int) := ⟨_, rfl⟩
  have hr1 : 0 ≤ r ∧ r ≤ 1000000 := by omega
  have q1 : wrap64 (fr : Int) = fr := by unfold wrap64; omega
  have q2 : 1 + (fr : Int) % 100 = F := by rw [hF]; omega
  have q3 : wrap64 (ro : Int) = ro := by unfold wrap64; omega
  have q4 : (ro : Int) % 1000001 = r := by rw [hr]; omega
  have HFE := Lib.hid hFe
  have HF1 := Lib.hid hF1
  have HR := Lib.hid hr1
  clear hF hr hFe hF1 hr1
  go_enter Tryd.func20, Tryd.ntmps20
  go_wp2_with fail
  obtain ⟨X1, hX1⟩ : ∃ X1, X1 = w.alloc (.cells #[.int .u8 pk, .int .u8 ps, .int .u32 pq, .int .u32 pv] 96) := ⟨_, rfl⟩
  rw [← hX1]
  have HR1 : Hid (X1.heap[w.heap.size]? = some (.cells #[.int .u8 pk, .int .u8 ps, .int .u32 pq, .int .u32 pv] 96 (0, 0))) := Lib.hid (by rw [hX1]; exact heap_new _ _ _ rfl)
  have HB1 : Hid (Below w.heap.size w X1) := Lib.hid (by rw [hX1]; exact (Below.refl w.heap.size w).alloc (Nat.le_refl _) _)
  clear hX1
  refine (plain_any X1).mono ?_
  rintro e w1 ⟨pa, sa, ba, rfl, hC, hb2⟩
  obtain ⟨X2, hX2⟩ : ∃ X2, X2 = w1.alloc (.cells #[.int .i64 4, .slice pa 2 2, .slice sa 2 2, .int .i64 120, .slice ba 4 4, .slice none 0 0, .int .i64 3, .int .i64 3, .int .i64 F] 25) := ⟨_, rfl⟩
  have hx2 : Below w1.heap.size w1 X2 := by rw [hX2]; exact (Below.refl _ w1).alloc (Nat.le_refl _) _
  have HC : Hid (CfgIn X2 4 120 3 3 F pa sa ba none 2 2 2 2 4 4 0 0 [0, 2] [0, 1] [0, 0, 0, 0] []) := Lib.hid (by
    have h := hC.below hx2
    exact ⟨h.op, h.os, h.ob, h.ot, h.rp, h.rs, h.rb, h.rt⟩)
  have HQ1 : Hid (X2.heap[w.heap.size]? = some (.cells #[.int .u8 pk, .int .u8 ps, .int .u32 pq, .int .u32 pv] 96 (0, 0))) := Lib.hid (by
    have h := (hb2.block _ (Array.getElem?_eq_some_iff.1 HR1.out).1).trans HR1.out
    exact (hx2.block _ (Array.getElem?_eq_some_iff.1 h).1).trans h)
  have hq2 : X2.heap[w1.heap.size]? = some (.cells #[.int .i64 4, .slice pa 2 2, .slice sa 2 2, .int .i64 120, .slice ba 4 4, .slice none 0 0, .int .i64 3, .int .i64 3, .int .i64 F] 25 (0, 0)) := by rw [hX2]; exact heap_new _ _ _ rfl
  have HB2 : Hid (Below w.heap.size w X2) := Lib.hid (HB1.out.trans ((hb2.trans (hx2.mono hb2.size)).mono HB1.out.size))
  clear hC hb2 HR1 hx2
  go_wp2_with fail
  try rw [q2]
  rw [← hX2]
  obtain ⟨gc, hgc⟩ : ∃ gc, gc = w1.heap.size := ⟨_, rfl⟩
  rw [← hgc] at hq2
  try rw [← hgc]
  clear hX2 hgc
  have HQ2 := Lib.hid hq2
  rw [run_cfgLoad X2 gc _ hq2 rfl]
  clear hq2
  go_wp2_with fail
  refine (new_any _ _ _ _ _ _ _ _ _ _ _ _ _ _ _ _ _ _ _ _ _ _ (HS.out.below HB2.out) HC.out).mono ?_
  rintro e Wn hP
  rcases hP with ⟨h0, _⟩ | ⟨_, b, rfl, hA, hb3⟩
  · exact absurd HFE.out h0
  obtain ⟨npa, nsa, nba, nta, nqa, hv⟩ := hA.view (Cfg.ok HFE.out)
  have HNP : Hid (NetP Wn (some ⟨b, 0, none⟩) (freshC F) (freshC F).pairs) := Lib.hid (.inr ⟨b, npa, nsa, nba, nta, nqa, rfl, hv⟩)
  have HBn := Lib.hid (HB2.out.trans (hb3.mono HB2.out.size))
  have HP1 := Lib.hid ((hb3.block _ (Array.getElem?_eq_some_iff.1 HQ1.out).1).trans HQ1.out)
  have HP2 := Lib.hid ((hb3.block _ (Array.getElem?_eq_some_iff.1 HQ2.out).1).trans HQ2.out)
  have HNB := Lib.hid (newbox_ok b npa nsa nba nta nqa (freshC F) (Cfg.ok HFE.out) Wn hv)
  clear hA hb3 hv HC HQ1 HQ2
  go_wp2_with fail
  refine HNB.out.mono ?_
  rintro e W0 ⟨g, rfl, hg, hbox, hb4⟩
  have H0 : Hid (BoxS Wn W0 g b F (fun _ => Kept.none)) := Lib.hid ⟨hb4, hbox⟩
  obtain ⟨ks, hks⟩ : ∃ ks, ks = putK (fun _ => Kept.none) 1 ⟨true, r, pk, ps, pq, pv⟩ := ⟨_, rfl⟩
  have hk1 : ks 1 = ⟨true, r, pk, ps, pq, pv⟩ := by rw [hks]; rfl
  have hk0 : ks 0 = Kept.none := by rw [hks]; rfl
  have isr : ∀ k : Nat, k ≤ 110 → isB (r + k) = true := fun k hk => decide_eq_true (by have := HR.out; omega)
  have KP : ∀ W ks, BoxS Wn W g b F ks → W.heap[w.heap.size]? = some (.cells #[.int .u8 pk, .int .u8 ps, .int .u32 pq, .int .u32 pv] 96 (0, 0)) ∧ W.heap[gc]? = some (.cells #[.int .i64 4, .slice pa 2 2, .slice sa 2 2, .int .i64 120, .slice ba 4 4, .slice none 0 0, .int .i64 3, .int .i64 3, .int .i64 F] 25 (0, 0)) := fun W ks h => ⟨(h.1.block _ (Array.getElem?_eq_some_iff.1 HP1.out).1).trans HP1.out, (h.1.block _ (Array.getElem?_eq_some_iff.1 HP2.out).1).trans HP2.out⟩
  have E1 : Hid (∀ W, BoxS Wn W g b F (fun _ => Kept.none) → Calls Tryd.prog 62 #[.pointer (some ⟨g, 0, none⟩), .int .i64 1, .agg #[.int .u8 pk, .int .u8 ps, .int .u32 pq, .int .u32 pv], .int .i64 r] W fun e w' => e = .returned (.int .i64 0) ∧ BoxS Wn w' g b F ks) := Lib.hid fun W h => by
    rw [hks]
    exact box_put hg (Cfg.ok HFE.out) HNP.out h 1 (show 1 < ([0, 2] : List Int).length by decide) pk ps pq pv r (by have := isr 0 (by omega); simp only [Int.add_zero, Int.cast_ofNat_Int] at this; simp [takesB, this, Kept.none])
  have E2 : Hid (∀ W (k : Nat), k ≤ 110 → BoxS Wn W g b F ks → Calls Tryd.prog 64 #[.pointer (some ⟨g, 0, none⟩), .int .i64 1, .int .i64 (r + k)] W fun e w' => e = .returned (.tuple #[.agg #[.int .u8 pk, .int .u8 ps, .int .u32 pq, .int .u32 pv], .int .i64 k, .bool (decide ((k : Int) < F))]) ∧ BoxS Wn w' g b F ks ∧ Below W.heap.size W w') := Lib.hid fun W k hk h => by
    have h := box_get (Cfg.ok HFE.out) HNP.out h 1 (show 1 < ([0, 2] : List Int).length by decide) (r + k) (by rw [hk1]; simp [hasB, isr k hk]; omega) (by rw [hk1]; exact HR.out.1)
    rw [hk1, show r + (k : Int) - (⟨true, r, pk, ps, pq, pv⟩ : Kept).round = k by show r + (k : Int) - r = k; omega] at h
    exact h
  have E3 : Hid (∀ W (k : Nat), k ≤ 110 → BoxS Wn W g b F ks → Calls Tryd.prog 64 #[.pointer (some ⟨g, 0, none⟩), .int .i64 0, .int .i64 (r + k)] W fun e w' => e = .returned (.tuple #[.agg #[.int .u8 0, .int .u8 0, .int .u32 0, .int .u32 0], .int .i64 (-1), .bool false]) ∧ BoxS Wn w' g b F ks ∧ Below W.heap.size W w') := Lib.hid fun W k hk h => box_lack (Cfg.ok HFE.out) HNP.out h 0 (r + k) (.inr (by rw [show (0 : Int).toNat = 0 from rfl, hk0]; simp [hasB, Kept.none]))
  have HKP := Lib.hid KP
  have HISR := Lib.hid isr
  clear KP hbox hb4 hks hk1 hk0 isr HNB
  have rp := (HKP.out _ _ H0.out).1
  go_wp2_with fail
  try rw [q4]
  try rw [run_payLoad W0 _ _ rp rfl]
  go_wp2_with fail
  refine (E1.out _ H0.out).mono ?_
  rintro e W1 ⟨rfl, hb1⟩
  have H1 := Lib.hid hb1
  clear hb1 rp
  go_wp2_with fail
  go_loopw [12] (fun i wr => ∃ k : Nat, k ≤ 110 ∧ i = .int .i64 k ∧ Hid (BoxS Wn wr g b F ks)) (fun i _ => 110 - (intOf i).toNat)
  case atStart => exact ⟨0, by omega, rfl, H1⟩
  case round =>
    obtain ⟨k, hk, rfl, HQ⟩ := hrel
    obtain ⟨V0, hV0⟩ : ∃ V0 : World, V0 = wr := ⟨_, rfl⟩
    subst hV0
    by_cases hlt : k < 110
    · have hk1 := HKP.out _ _ HQ.out
      have w1' : wrap64 (r + (k : Int)) = r + k := by have := HR.out; unfold wrap64; omega
      have dk : decide ((k : Int) < 110) = true := decide_eq_true (by omega)
      have hfr2 := HQ.out.2
      clear hfr2 hk1
      go_wp2_with fail
      refine (E2.out V0 k hk HQ.out).mono ?_
      rintro e W7 ⟨rfl, hb7, hc7⟩
      go_wp2_with fail
      obtain ⟨V7, hV7⟩ : ∃ V7, V7 = W7.alloc (.cells #[.int .u8 pk, .int .u8 ps, .int .u32 pq, .int .u32 pv] 96) := ⟨_, rfl⟩
      rw [← hV7]
      have r7 : V7.heap[W7.heap.size]? = some (.cells #[.int .u8 pk, .int .u8 ps, .int .u32 pq, .int .u32 pv] 96 (0, 0)) := by rw [hV7]; exact heap_new _ _ _ rfl
      have HV7 : Hid (BoxS Wn V7 g b F ks) := Lib.hid (hb7.later (by rw [hV7]; exact (Below.refl _ _).alloc (Nat.le_refl _) _))
      obtain ⟨g7, hg7⟩ : ∃ g, g = W7.heap.size := ⟨_, rfl⟩
      rw [← hg7] at r7 ⊢
      clear hV7 hg7 hb7 hc7
      refine (E3.out V7 k hk HV7.out).mono ?_
      rintro e W8 ⟨rfl, hb8, hc8⟩
      have r8 := (hc8.block _ (Array.getElem?_eq_some_iff.1 r7).1).trans r7
      clear r7 hc8
      go_wp2_with fail
      obtain ⟨V9, hV9⟩ : ∃ V9, V9 = W8.alloc (.cells #[.int .u8 0, .int .u8 0, .int .u32 0, .int .u32 0] 96) := ⟨_, rfl⟩
      first | rw [← hV9] | skip
      have hc : Below W8.heap.size W8 V9 := by rw [hV9]; exact (Below.refl _ _).alloc (Nat.le_refl _) _
      have t7 := (hc.block _ (Array.getElem?_eq_some_iff.1 r8).1).trans r8
      have HV9 := Lib.hid (hb8.later hc)
      have t1 := (HKP.out _ _ HV9.out).1
      have t2 : V9.cell? ⟨gc, 8, none⟩ = some (.int .i64 F) := heap_cell (HKP.out _ _ HV9.out).2 8
      clear hV9 hb8 hc r8
      first | rw [run_payLoad V9 _ _ t7 rfl] | skip
      go_wp2_with fail
      exact ⟨⟨k + 1, by omega, by go_num, HV9⟩, by simp [intOf]; omega⟩
    · have hbw := HBn.out.trans (HQ.out.1.mono HBn.out.size)
      have HL := Lib.hid (lives19_any V0 (HS.out.below hbw))
      have HBW := Lib.hid hbw
      clear hbw
      go_wp2_with fail
      refine HL.out.mono ?_
      rintro e W1 ⟨rfl, hb1⟩
      go_wp2
      go_ret
      exact ⟨rfl, HBW.out.trans (hb1.mono HBW.out.size)⟩
end Go.Proofs.YtibncdkekceokaaDoor
