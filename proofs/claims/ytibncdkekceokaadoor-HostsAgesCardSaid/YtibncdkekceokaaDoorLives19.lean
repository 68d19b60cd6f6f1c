/- sennitlaw19.lives: the chapter's examples. -/
import Derived.Test.YtibncdkekceokaaDoorBoxG
namespace Go.Proofs.YtibncdkekceokaaDoor
open Go.RowKit

def payLoad (v : Value) : Sem Value := Instr.loadAt 96 v
theorem payLoad_eq (v : Value) : Instr.loadAt 96 v = payLoad v := rfl
theorem run_payLoad (W : World) (g : Nat) (cs : Array Value) (h : W.heap[g]? = some (.cells cs 96 (0, 0))) (hs : cs.size = 4) : (payLoad (.pointer (some ⟨g, 0, none⟩))).run Tryd.prog W = .ok (.agg cs) W :=
  load_block' W g _ _ cs (0, 0) _ Tryd.underlying96 rfl (by rw [hs]; kernel_rfl) h
/-- A box's state, and all that lay ahead of it. -/
def BoxS (Wn W : World) (g b : Nat) (fresh : Int) (ks : Nat → Kept) : Prop := Below Wn.heap.size Wn W ∧ BoxAt W g (some ⟨b, 0, none⟩) fresh ks
section
variable {Wn W : World} {g b : Nat} {fresh : Int} {ks : Nat → Kept} {c : Cfg}
theorem BoxS.later {W' : World} (h : BoxS Wn W g b fresh ks) (hb : Below W.heap.size W W') : BoxS Wn W' g b fresh ks := ⟨h.1.trans (hb.mono h.1.size), h.2.below hb⟩
theorem box_put (hg : Wn.heap.size ≤ g) (hok : CfgOK c) (hn : NetP Wn (some ⟨b, 0, none⟩) c c.pairs) (h : BoxS Wn W g b fresh ks) (i : Nat) (hi : i < c.ps.length) (k s q v r : Int) (ht : takesB (ks i) r = true) :
    Calls Tryd.prog 62 #[.pointer (some ⟨g, 0, none⟩), .int .i64 (i : Int), .agg #[.int .u8 k, .int .u8 s, .int .u32 q, .int .u32 v], .int .i64 r] W fun e w' => e = .returned (.int .i64 0) ∧ BoxS Wn w' g b fresh (putK ks i ⟨true, r, k, s, q, v⟩) :=
  (put_ok g b c hok fresh ks i hi k s q v r W h.2 (hn.below h.1) ht).mono fun _ _ ⟨h1, h2, h3⟩ => ⟨h1, h.1.grown h3 h.1.size (fun k e => by cases e; exact hg), h2⟩
theorem box_refuse (hok : CfgOK c) (hn : NetP Wn (some ⟨b, 0, none⟩) c c.pairs) (h : BoxS Wn W g b fresh ks) (pair k s q v r : Int) (ht : ¬ (0 ≤ pair ∧ pair < c.ps.length) ∨ takesB (ks pair.toNat) r = false) :
    Calls Tryd.prog 62 #[.pointer (some ⟨g, 0, none⟩), .int .i64 pair, .agg #[.int .u8 k, .int .u8 s, .int .u32 q, .int .u32 v], .int .i64 r] W fun e w' => e = .returned (.int .i64 1) ∧ BoxS Wn w' g b fresh ks :=
  (put_no g b c hok fresh ks pair k s q v r W h.2 (hn.below h.1) ht).mono fun _ _ ⟨h1, h2⟩ => ⟨h1, h.later h2⟩
theorem box_get (hok : CfgOK c) (hn : NetP Wn (some ⟨b, 0, none⟩) c c.pairs) (h : BoxS Wn W g b fresh ks) (i : Nat) (hi : i < c.ps.length) (r : Int) (ht : hasB (ks i) r = true) (h0 : 0 ≤ (ks i).round) :
    Calls Tryd.prog 64 #[.pointer (some ⟨g, 0, none⟩), .int .i64 (i : Int), .int .i64 r] W fun e w' => e = .returned (.tuple #[.agg #[.int .u8 (ks i).kind, .int .u8 (ks i).st, .int .u32 (ks i).seq, .int .u32 (ks i).val], .int .i64 (r - (ks i).round), .bool (decide (r - (ks i).round < fresh))]) ∧ BoxS Wn w' g b fresh ks ∧ Below W.heap.size W w' :=
  (get_ok g b c hok fresh ks i hi r W h.2 (hn.below h.1) ht h0).mono fun _ _ ⟨h1, h2⟩ => ⟨h1, h.later h2, h2⟩
theorem box_lack (hok : CfgOK c) (hn : NetP Wn (some ⟨b, 0, none⟩) c c.pairs) (h : BoxS Wn W g b fresh ks) (pair r : Int) (ht : ¬ (0 ≤ pair ∧ pair < c.ps.length) ∨ hasB (ks pair.toNat) r = false) :
    Calls Tryd.prog 64 #[.pointer (some ⟨g, 0, none⟩), .int .i64 pair, .int .i64 r] W fun e w' => e = .returned (.tuple #[.agg #[.int .u8 0, .int .u8 0, .int .u32 0, .int .u32 0], .int .i64 (-1), .bool false]) ∧ BoxS Wn w' g b fresh ks ∧ Below W.heap.size W w' :=
  (get_no g b c hok fresh ks pair r W h.2 (hn.below h.1) ht).mono fun _ _ ⟨h1, h2⟩ => ⟨h1, h.later h2, h2⟩
theorem box_offer (h : BoxS Wn W g b fresh ks) (a : Option Addr) (cap : Nat) (es : List Ent) (r : Int) (hreach : es.length ≤ 1000000) (hI : EntsAt Wn.heap.size Wn (.slice a es.length cap) es) :
    Calls Tryd.prog 59 #[.slice a es.length cap, .int .i64 r] W fun e w' => e = .returned (.agg (saidC (offerF es r) r)) ∧ BoxS Wn w' g b fresh ks :=
  (offer_any a cap es r hreach W ((hI.below h.1).wide h.1.size)).mono fun _ _ ⟨h1, h2⟩ => ⟨h1, h.later h2⟩
end
def liveE1 : Ent := ⟨2, 3, 1, 0, 0, 1, by decide, by decide⟩
def liveE2 : Ent := ⟨4, 9, 2, 0, 0, 2, by decide, by decide⟩
def liveKs : Nat → Kept := putK (fun _ => Kept.none) 0 ⟨true, 5, 1, 0, 0, 1⟩
attribute [local go_sem ↓ high] payLoad_eq
attribute [local go_sem high] run_payLoad
set_option maxRecDepth 100000 in
set_option maxHeartbeats 8000000 in
theorem lives19_any (w : World) (hs : Signs w) :
    Calls Tryd.prog 58 #[] w fun e w' => e = .returned (.bool true) ∧ Below w.heap.size w w' := by
  have HS := Lib.hid hs
  clear hs
  go_enter Tryd.func58, Tryd.ntmps58
  go_wp2_with fail
  obtain ⟨X1, hX1⟩ : ∃ X1, X1 = (w.alloc (.cells #[.int .u8 1, .int .u8 0, .int .u32 0, .int .u32 1] 96)).alloc (.cells #[.int .u8 2, .int .u8 0, .int .u32 0, .int .u32 2] 96) := ⟨_, rfl⟩
  rw [← hX1]
  have r1 : X1.heap[w.heap.size]? = some (.cells #[.int .u8 1, .int .u8 0, .int .u32 0, .int .u32 1] 96 (0, 0)) := by rw [hX1]; exact heap_alloc2_old w _ _
  have r2 : X1.heap[w.heap.size + 1]? = some (.cells #[.int .u8 2, .int .u8 0, .int .u32 0, .int .u32 2] 96 (0, 0)) := by rw [hX1]; exact heap_new _ _ _ (by simp)
  have hb1 : Below w.heap.size w X1 := by rw [hX1]; exact ((Below.refl w.heap.size w).alloc (Nat.le_refl _) _).alloc (by simp) _
  clear hX1
  first | rw [run_payLoad X1 _ _ r1 rfl] | skip
  go_wp2_with fail
  have HR1 := Lib.hid r1
  have HR2 := Lib.hid r2
  have HB1 := Lib.hid hb1
  clear r1 r2 hb1
  refine (plain_any _).mono ?_
  rintro e w1 ⟨pa, sa, ba, rfl, hC, hb2⟩
  have hb2' : Below X1.heap.size X1 w1 := ((Below.refl X1.heap.size X1).alloc (Nat.le_refl _) _).trans (hb2.mono (by simp))
  have HE : Hid (EntsAt w1.heap.size w1 (.slice (some ⟨X1.heap.size, 0, none⟩) 2 2) [liveE1, liveE2]) := Lib.hid (by
    have hrow : w1.heap[X1.heap.size]? = some (.cells #[.int .i64 2, .int .i64 3, .int .u8 1, .int .u8 0, .int .u32 0, .int .u32 1, .int .i64 4, .int .i64 9, .int .u8 2, .int .u8 0, .int .u32 0, .int .u32 2] 98 (0, 0)) := (hb2.block _ (by simp)).trans (heap_new _ _ _ rfl)
    refine .inr ⟨X1.heap.size, 0, 2, rfl, (Array.getElem?_eq_some_iff.1 hrow).1, fun j hj => ?_⟩
    have hj' : j = 0 ∨ j = 1 := by simp at hj; omega
    rcases hj' with rfl | rfl
    · exact ⟨heap_cell hrow 0, heap_cell hrow 1, heap_cell hrow 2, heap_cell hrow 3, heap_cell hrow 4, heap_cell hrow 5⟩
    · exact ⟨heap_cell hrow 6, heap_cell hrow 7, heap_cell hrow 8, heap_cell hrow 9, heap_cell hrow 10, heap_cell hrow 11⟩)
  have HB2 := Lib.hid (HB1.out.trans (hb2'.mono HB1.out.size))
  have HQ1 := Lib.hid ((hb2'.block _ (Array.getElem?_eq_some_iff.1 HR1.out).1).trans HR1.out)
  have HQ2 := Lib.hid ((hb2'.block _ (Array.getElem?_eq_some_iff.1 HR2.out).1).trans HR2.out)
  clear hb2 hb2' HR1 HR2
  go_wp2_with fail
  refine (new_any _ _ _ _ _ _ _ _ _ _ _ _ _ _ _ _ _ _ _ _ _ _ (HS.out.below HB2.out) hC).mono ?_
  rintro e Wn hP
  rcases hP with ⟨h0, _⟩ | ⟨_, b, rfl, hA, hb3⟩
  · exact absurd plainC_err h0
  obtain ⟨npa, nsa, nba, nta, nqa, hv⟩ := hA.view (Cfg.ok plainC_err)
  have HNP : Hid (NetP Wn (some ⟨b, 0, none⟩) plainC plainC.pairs) := Lib.hid (.inr ⟨b, npa, nsa, nba, nta, nqa, rfl, hv⟩)
  have HBn := Lib.hid (HB2.out.trans (hb3.mono HB2.out.size))
  have HEn := Lib.hid ((HE.out.below hb3).wide hb3.size)
  have HP1 := Lib.hid ((hb3.block _ (Array.getElem?_eq_some_iff.1 HQ1.out).1).trans HQ1.out)
  have HP2 := Lib.hid ((hb3.block _ (Array.getElem?_eq_some_iff.1 HQ2.out).1).trans HQ2.out)
  have hnb := newbox_ok b npa nsa nba nta nqa plainC (Cfg.ok plainC_err) Wn hv
  have HNB := Lib.hid hnb
  clear hA hb3 hv hC HE HQ1 HQ2 hnb
  go_wp2_with fail
  refine HNB.out.mono ?_
  rintro e W0 ⟨g, rfl, hg, hbox, hb4⟩
  have H0 : Hid (BoxS Wn W0 g b 3 (fun _ => Kept.none)) := Lib.hid ⟨hb4, hbox⟩
  have KP : ∀ W ks, BoxS Wn W g b 3 ks → W.heap[w.heap.size]? = some (.cells #[.int .u8 1, .int .u8 0, .int .u32 0, .int .u32 1] 96 (0, 0)) ∧ W.heap[w.heap.size + 1]? = some (.cells #[.int .u8 2, .int .u8 0, .int .u32 0, .int .u32 2] 96 (0, 0)) := fun W ks h => ⟨(h.1.block _ (Array.getElem?_eq_some_iff.1 HP1.out).1).trans HP1.out, (h.1.block _ (Array.getElem?_eq_some_iff.1 HP2.out).1).trans HP2.out⟩
  have E1 : Hid (∀ W, BoxS Wn W g b 3 (fun _ => Kept.none) → Calls Tryd.prog 59 #[.slice (some ⟨X1.heap.size, 0, none⟩) 2 2, .int .i64 1] W fun e w' => e = .returned (.agg #[.bool false, .int .i64 0, .int .u8 0, .int .u8 0, .int .u32 0, .int .u32 0]) ∧ BoxS Wn w' g b 3 (fun _ => Kept.none)) := Lib.hid fun W h => box_offer h _ 2 [liveE1, liveE2] 1 (by decide) HEn.out
  have E2 : Hid (∀ W, BoxS Wn W g b 3 (fun _ => Kept.none) → Calls Tryd.prog 59 #[.slice (some ⟨X1.heap.size, 0, none⟩) 2 2, .int .i64 2] W fun e w' => e = .returned (.agg #[.bool true, .int .i64 2, .int .u8 1, .int .u8 0, .int .u32 0, .int .u32 1]) ∧ BoxS Wn w' g b 3 (fun _ => Kept.none)) := Lib.hid fun W h => box_offer h _ 2 [liveE1, liveE2] 2 (by decide) HEn.out
  have E3 : Hid (∀ W, BoxS Wn W g b 3 (fun _ => Kept.none) → Calls Tryd.prog 59 #[.slice (some ⟨X1.heap.size, 0, none⟩) 2 2, .int .i64 4] W fun e w' => e = .returned (.agg #[.bool true, .int .i64 4, .int .u8 2, .int .u8 0, .int .u32 0, .int .u32 2]) ∧ BoxS Wn w' g b 3 (fun _ => Kept.none)) := Lib.hid fun W h => box_offer h _ 2 [liveE1, liveE2] 4 (by decide) HEn.out
  have E4 : Hid (∀ W, BoxS Wn W g b 3 (fun _ => Kept.none) → Calls Tryd.prog 59 #[.slice (some ⟨X1.heap.size, 0, none⟩) 2 2, .int .i64 13] W fun e w' => e = .returned (.agg #[.bool false, .int .i64 0, .int .u8 0, .int .u8 0, .int .u32 0, .int .u32 0]) ∧ BoxS Wn w' g b 3 (fun _ => Kept.none)) := Lib.hid fun W h => box_offer h _ 2 [liveE1, liveE2] 13 (by decide) HEn.out
  have E5 : Hid (∀ W, BoxS Wn W g b 3 (fun _ => Kept.none) → Calls Tryd.prog 62 #[.pointer (some ⟨g, 0, none⟩), .int .i64 0, .agg #[.int .u8 1, .int .u8 0, .int .u32 0, .int .u32 1], .int .i64 5] W fun e w' => e = .returned (.int .i64 0) ∧ BoxS Wn w' g b 3 liveKs) := Lib.hid fun W h => box_put hg (Cfg.ok plainC_err) HNP.out h 0 (by decide) 1 0 0 1 5 (by decide)
  have E6 : Hid (∀ W, BoxS Wn W g b 3 liveKs → Calls Tryd.prog 62 #[.pointer (some ⟨g, 0, none⟩), .int .i64 0, .agg #[.int .u8 2, .int .u8 0, .int .u32 0, .int .u32 2], .int .i64 4] W fun e w' => e = .returned (.int .i64 1) ∧ BoxS Wn w' g b 3 liveKs) := Lib.hid fun W h => box_refuse (Cfg.ok plainC_err) HNP.out h 0 2 0 0 2 4 (.inr (by decide))
  have E7 : Hid (∀ W, BoxS Wn W g b 3 liveKs → Calls Tryd.prog 64 #[.pointer (some ⟨g, 0, none⟩), .int .i64 0, .int .i64 7] W fun e w' => e = .returned (.tuple #[.agg #[.int .u8 1, .int .u8 0, .int .u32 0, .int .u32 1], .int .i64 2, .bool true]) ∧ BoxS Wn w' g b 3 liveKs ∧ Below W.heap.size W w') := Lib.hid fun W h => box_get (Cfg.ok plainC_err) HNP.out h 0 (by decide) 7 (by decide) (by decide)
  have E8 : Hid (∀ W, BoxS Wn W g b 3 liveKs → Calls Tryd.prog 64 #[.pointer (some ⟨g, 0, none⟩), .int .i64 0, .int .i64 8] W fun e w' => e = .returned (.tuple #[.agg #[.int .u8 1, .int .u8 0, .int .u32 0, .int .u32 1], .int .i64 3, .bool false]) ∧ BoxS Wn w' g b 3 liveKs ∧ Below W.heap.size W w') := Lib.hid fun W h => box_get (Cfg.ok plainC_err) HNP.out h 0 (by decide) 8 (by decide) (by decide)
  have E9 : Hid (∀ W, BoxS Wn W g b 3 liveKs → Calls Tryd.prog 64 #[.pointer (some ⟨g, 0, none⟩), .int .i64 0, .int .i64 4] W fun e w' => e = .returned (.tuple #[.agg #[.int .u8 0, .int .u8 0, .int .u32 0, .int .u32 0], .int .i64 (-1), .bool false]) ∧ BoxS Wn w' g b 3 liveKs ∧ Below W.heap.size W w') := Lib.hid fun W h => box_lack (Cfg.ok plainC_err) HNP.out h 0 4 (.inr (by decide))
  have HKP := Lib.hid KP
  clear KP hbox hb4
  go_wp2_with fail
  go_region_held3 (fun W => W.heap[w.heap.size]? = some (.cells #[.int .u8 1, .int .u8 0, .int .u32 0, .int .u32 1] 96 (0, 0)) ∧ W.heap[w.heap.size + 1]? = some (.cells #[.int .u8 2, .int .u8 0, .int .u32 0, .int .u32 2] 96 (0, 0))) (first | exact HKP.out _ _ H0.out | exact HKP.out _ _ (H0.out.later (Below.refl _ _).drew) | exact HKP.out _ _ ha1 | exact HKP.out _ _ ha2 | exact HKP.out _ _ ha3 | exact HKP.out _ _ ha4 | exact HKP.out _ _ ha5 | exact HKP.out _ _ ha6 | fail) (first | (go_at_call 59; (with_reducible refine (E1.out _ (by first | exact H0.out | exact H0.out.later (Below.refl _ _).drew)).mono ?_); rintro e w8 ⟨rfl, ha1⟩) | (go_at_call 59; (with_reducible refine (E2.out _ (ha1)).mono ?_); rintro e w8 ⟨rfl, ha2⟩) | (go_at_call 59; (with_reducible refine (E3.out _ (ha2)).mono ?_); rintro e w8 ⟨rfl, ha3⟩) | (go_at_call 59; (with_reducible refine (E4.out _ (ha3)).mono ?_); rintro e w8 ⟨rfl, ha4⟩) | (go_at_call 62; (with_reducible refine (E5.out _ (ha4)).mono ?_); rintro e w8 ⟨rfl, ha5⟩) | (go_at_call 62; (with_reducible refine (E6.out _ (ha5)).mono ?_); rintro e w8 ⟨rfl, ha6⟩) | fail)
  go_wp2_with fail
  refine (E7.out _ ha6).mono ?_
  rintro e W7 ⟨rfl, hb7, _⟩
  go_wp2_with fail
  obtain ⟨V7, hV7⟩ : ∃ V7, V7 = W7.alloc (.cells #[.int .u8 1, .int .u8 0, .int .u32 0, .int .u32 1] 96) := ⟨_, rfl⟩
  rw [← hV7]
  have r7 : V7.heap[W7.heap.size]? = some (.cells #[.int .u8 1, .int .u8 0, .int .u32 0, .int .u32 1] 96 (0, 0)) := by rw [hV7]; exact heap_new _ _ _ rfl
  have HV7 : Hid (BoxS Wn V7 g b 3 liveKs) := Lib.hid (hb7.later (by rw [hV7]; exact (Below.refl _ _).alloc (Nat.le_refl _) _))
  obtain ⟨g7, hg7⟩ : ∃ g, g = W7.heap.size := ⟨_, rfl⟩
  rw [← hg7] at r7 ⊢
  clear hV7 hg7 hb7
  refine (E8.out V7 HV7.out).mono ?_
  rintro e W8 ⟨rfl, hb8, hc8⟩
  have r8 := (hc8.block _ (Array.getElem?_eq_some_iff.1 r7).1).trans r7
  clear r7 hc8
  go_wp2_with fail
  obtain ⟨V8, hV8⟩ : ∃ V8, V8 = W8.alloc (.cells #[.int .u8 1, .int .u8 0, .int .u32 0, .int .u32 1] 96) := ⟨_, rfl⟩
  rw [← hV8]
  have s8 : V8.heap[W8.heap.size]? = some (.cells #[.int .u8 1, .int .u8 0, .int .u32 0, .int .u32 1] 96 (0, 0)) := by rw [hV8]; exact heap_new _ _ _ rfl
  have hc : Below W8.heap.size W8 V8 := by rw [hV8]; exact (Below.refl _ _).alloc (Nat.le_refl _) _
  have r8' := (hc.block _ (Array.getElem?_eq_some_iff.1 r8).1).trans r8
  have HV8 : Hid (BoxS Wn V8 g b 3 liveKs) := Lib.hid (hb8.later hc)
  obtain ⟨g8, hg8⟩ : ∃ g, g = W8.heap.size := ⟨_, rfl⟩
  rw [← hg8] at s8 ⊢
  clear hV8 hg8 hb8 hc r8
  refine (E9.out V8 HV8.out).mono ?_
  rintro e W9 ⟨rfl, hb9, hc9⟩
  have r9 := (hc9.block _ (Array.getElem?_eq_some_iff.1 r8').1).trans r8'
  have s9 := (hc9.block _ (Array.getElem?_eq_some_iff.1 s8).1).trans s8
  clear r8' s8 hc9
  go_wp2_with fail
  obtain ⟨V9, hV9⟩ : ∃ V9, V9 = W9.alloc (.cells #[.int .u8 0, .int .u8 0, .int .u32 0, .int .u32 0] 96) := ⟨_, rfl⟩
  first | rw [← hV9] | skip
  have hc : Below W9.heap.size W9 V9 := by rw [hV9]; exact (Below.refl _ _).alloc (Nat.le_refl _) _
  have t7 := (hc.block _ (Array.getElem?_eq_some_iff.1 r9).1).trans r9
  have t10 := (hc.block _ (Array.getElem?_eq_some_iff.1 s9).1).trans s9
  have HV9 := Lib.hid (hb9.later hc)
  have t1 := (HKP.out _ _ HV9.out).1
  clear hV9 hb9 hc r9 s9
  first | rw [run_payLoad V9 _ _ t7 rfl] | skip
  go_wp2
  go_ret
  exact ⟨rfl, HBn.out.trans (HV9.out.1.mono HBn.out.size)⟩
end Go.Proofs.YtibncdkekceokaaDoor
