/- sennitlaw01.LeftNums, LeftConfig: of twins. -/
import Derived.Test.YtibncdkekceokaaDoorTwin
import Derived.Test.YtibncdkekceokaaDoorSame
namespace Go.Proofs.YtibncdkekceokaaDoor
open Go.RowKit

theorem TwinAt.cell {w : World} {lo g n cap : Nat} {xs : List Int} (h : TwinAt w lo g n cap xs) (j : Nat) (x : Int) (hj : (xs ++ [77, 77])[j]? = some x) : w.cell? ⟨g, j, none⟩ = some (.int .i64 x) := by
  rcases h.2.2 with ⟨hl, ⟨hv, _⟩ | ⟨g', cap', cur, hv, hb, hg, _, _, hs, ht⟩⟩
  · cases hv
  · simp only [Value.slice.injEq, Option.some.injEq, Addr.mk.injEq, and_true, true_and] at hv
    obtain ⟨rfl, rfl⟩ := hv
    rw [heap_cell hg]
    have e : (cur.toList.take ((n + 2) * 1))[j]? = some (eI x) := by rw [ht, List.getElem?_map, hj]; rfl
    have hj1 : j < (xs ++ [77, 77]).length := (List.getElem?_eq_some_iff.1 hj).1
    have hl1 : (xs ++ [77, 77]).length = n + 2 := by simpa using hl
    rw [List.getElem?_take, if_pos (by omega)] at e
    simpa [eI] using e
theorem TwinAt.len {w : World} {lo g n cap : Nat} {xs : List Int} (h : TwinAt w lo g n cap xs) : xs.length = n := by
  have := h.2.2.1
  simpa using this
theorem TwinAt.reads {w : World} {lo g n cap : Nat} {xs : List Int} (h : TwinAt w lo g n cap xs) (hn : n ≤ 1000000) : Reads w eI (some ⟨g, 0, none⟩) n xs :=
  ⟨h.len, by omega, fun i hi => ⟨g, 0, rfl, by
    have hl := h.len
    rw [Nat.zero_add]
    refine h.cell i _ ?_
    rw [List.getElem?_append_left (by omega), List.getElem?_eq_getElem (by omega)]⟩⟩
theorem TwinAt.ok {w : World} {lo g n cap : Nat} {xs : List Int} (h : TwinAt w lo g n cap xs) : SliceOK (some ⟨g, 0, none⟩) n cap :=
  ⟨by have := h.2.1; omega, (fun h => by cases h), fun _ h => by cases h; exact ⟨g, 0, rfl⟩⟩
theorem TwinAt.capb {w : World} {lo g n cap : Nat} {xs : List Int} (h : TwinAt w lo g n cap xs) : cap ≤ 9223372036854775807 := by
  rcases h.2.2 with ⟨_, ⟨hv, _⟩ | ⟨g', cap', cur, hv, _, _, _, hm, _⟩⟩
  · cases hv
  · simp only [Value.slice.injEq, and_true, true_and] at hv
    obtain ⟨_, rfl⟩ := hv
    unfold maxLen at hm
    omega
set_option maxHeartbeats 1000000 in
theorem leftNums_any {lo g n c2 : Nat} {a : Option Addr} {cap : Nat} (xs : List Int) (w : World) (hT : TwinAt w lo g n c2 xs) (hr : Reads w eI a n xs) (ho : SliceOK a n cap) (hn : n ≤ 1000000) :
    Calls Tryd.prog 76 #[.slice (some ⟨g, 0, none⟩) n c2, .slice a n cap] w fun e w' => e = .returned (.bool true) ∧ Below w.heap.size w w' := by
  have hsn := samenums_any xs w (hT.reads hn) hr hT.ok ho hn
  have hl := hT.len
  have e1 := hT.cell n 77 (by rw [List.getElem?_append_right (by omega), hl]; simp)
  have e2 := hT.cell (n + 1) 77 (by rw [List.getElem?_append_right (by omega), hl]; simp)
  have hc := hT.2.1
  have hcb := hT.capb
  clear hT hr ho hl
  go_enter Tryd.func76, Tryd.ntmps76
  go_wp2_with fail
  refine hsn.mono ?_
  rintro e w1 ⟨rfl, hb1⟩
  have f1 := (hb1.cell (p := ⟨g, n, none⟩) (World.block_lt_of_cell? w _ e1)).trans e1
  have f2 := (hb1.cell (p := ⟨g, n + 1, none⟩) (World.block_lt_of_cell? w _ e2)).trans e2
  have HB := Lib.hid hb1
  clear hb1 hsn e1 e2
  have d1 : decide ((c2 : Int) < (n : Int) + 2) = false := decide_eq_false (by omega)
  go_wp2
  first | go_quiet (fail) | skip
  try go_wp2
  go_ret
  exact ⟨rfl, by first | exact HB.out | exact below_drewN HB.out _⟩

theorem TwinSt.len {w : World} {lo g n cap : Nat} {xs : List (Int × Int × Int)} (h : TwinSt w lo g n cap xs) : xs.length = n := by
  have := h.2.2.1
  rw [flat3_length] at this
  simp at this
  omega
theorem TwinSt.cell {w : World} {lo g n cap : Nat} {xs : List (Int × Int × Int)} (h : TwinSt w lo g n cap xs) (j : Nat) (s : Int × Int × Int) (hj : (xs ++ [(77, 0, 0)])[j]? = some s) (k : Nat) (hk : k < 3) : w.cell? ⟨g, j * 3 + k, none⟩ = (eSt s)[k]? := by
  rcases h.2.2 with ⟨hl, ⟨hv, _⟩ | ⟨g', cap', cur, hv, hb, hg, _, _, hs, ht⟩⟩
  · cases hv
  · simp only [Value.slice.injEq, Option.some.injEq, Addr.mk.injEq, and_true, true_and] at hv
    obtain ⟨rfl, rfl⟩ := hv
    have hj1 : j < (xs ++ [(77, 0, 0)]).length := (List.getElem?_eq_some_iff.1 hj).1
    have hl1 : (xs ++ [((77 : Int), (0 : Int), (0 : Int))]).length * 3 = (n + 1) * 3 := by rw [← flat3_length]; exact hl
    rw [heap_cell hg, ← Array.getElem?_toList]
    have e : (cur.toList.take ((n + 1) * 3))[j * 3 + k]? = ((xs ++ [(77, 0, 0)]).flatMap eSt)[j * 3 + k]? := by rw [ht]
    rw [List.getElem?_take, if_pos (by omega), flat3_get] at e
    rw [e, show (j * 3 + k) / 3 = j by omega, show (j * 3 + k) % 3 = k by omega, hj]
    rfl
theorem TwinSt.reads {w : World} {lo g n cap : Nat} {xs : List (Int × Int × Int)} (h : TwinSt w lo g n cap xs) (hn : n ≤ 1000000) : ReadsSt w (some ⟨g, 0, none⟩) n xs :=
  ⟨h.len, by omega, fun i hi => by
    have hl := h.len
    have hx : (xs ++ [(77, 0, 0)])[i]? = some (xs[i]'(by omega)) := by rw [List.getElem?_append_left (by omega), List.getElem?_eq_getElem (by omega)]
    refine ⟨g, 0, rfl, ?_, ?_, ?_⟩
    · have := h.cell i _ hx 0 (by omega)
      rw [Nat.zero_add]; exact this
    · have := h.cell i _ hx 1 (by omega)
      rw [Nat.zero_add]; exact this
    · have := h.cell i _ hx 2 (by omega)
      rw [Nat.zero_add]; exact this⟩
theorem TwinSt.ok {w : World} {lo g n cap : Nat} {xs : List (Int × Int × Int)} (h : TwinSt w lo g n cap xs) : SliceOK (some ⟨g, 0, none⟩) n cap :=
  ⟨by have := h.2.1; omega, (fun h => by cases h), fun _ h => by cases h; exact ⟨g, 0, rfl⟩⟩
theorem TwinSt.capb {w : World} {lo g n cap : Nat} {xs : List (Int × Int × Int)} (h : TwinSt w lo g n cap xs) : cap ≤ 9223372036854775807 := by
  rcases h.2.2 with ⟨_, ⟨hv, _⟩ | ⟨g', cap', cur, hv, _, _, _, hm, _⟩⟩
  · cases hv
  · simp only [Value.slice.injEq, and_true, true_and] at hv
    obtain ⟨_, rfl⟩ := hv
    unfold maxLen at hm
    omega
/-- A twin config's values. -/
def TwinC (w : World) (lo : Nat) (g1 c1 g2 c2 g3 c3 g4 c4 : Nat) (pn sn bn tn : Nat) (ps ss bs : List Int) (ts : List (Int × Int × Int)) : Prop :=
  TwinAt w lo g1 pn c1 ps ∧ TwinAt w lo g2 sn c2 ss ∧ TwinAt w lo g3 bn c3 bs ∧ TwinSt w lo g4 tn c4 ts
theorem TwinC.below {w w' : World} {lo g1 c1 g2 c2 g3 c3 g4 c4 pn sn bn tn : Nat} {ps ss bs : List Int} {ts : List (Int × Int × Int)} (h : TwinC w lo g1 c1 g2 c2 g3 c3 g4 c4 pn sn bn tn ps ss bs ts) (hb : Below w.heap.size w w') : TwinC w' lo g1 c1 g2 c2 g3 c3 g4 c4 pn sn bn tn ps ss bs ts :=
  ⟨h.1.below hb, h.2.1.below hb, h.2.2.1.below hb, h.2.2.2.below hb⟩
theorem TwinC.cfg {w : World} {lo g1 c1 g2 c2 g3 c3 g4 c4 pn sn bn tn : Nat} {ps ss bs : List Int} {ts : List (Int × Int × Int)} (h : TwinC w lo g1 c1 g2 c2 g3 c3 g4 c4 pn sn bn tn ps ss bs ts) (lp : pn ≤ 1000000) (ls : sn ≤ 1000000) (lb : bn ≤ 1000000) (lt : tn ≤ 1000000) (nodes long miss good fresh : Int) :
    CfgIn w nodes long miss good fresh (some ⟨g1, 0, none⟩) (some ⟨g2, 0, none⟩) (some ⟨g3, 0, none⟩) (some ⟨g4, 0, none⟩) pn c1 sn c2 bn c3 tn c4 ps ss bs ts :=
  ⟨h.1.ok, h.2.1.ok, h.2.2.1.ok, h.2.2.2.ok, h.1.reads lp, h.2.1.reads ls, h.2.2.1.reads lb, h.2.2.2.reads lt⟩
set_option maxRecDepth 100000 in
set_option maxHeartbeats 4000000 in
theorem leftConfig_any (nodes long miss good fresh : Int) (pa sa ba ta : Option Addr) (pn pc sn sc bn bc tn tc : Nat) (ps ss bs : List Int) (ts : List (Int × Int × Int)) (lo g1 c1 g2 c2 g3 c3 g4 c4 : Nat) (w : World) (hC : CfgIn w nodes long miss good fresh pa sa ba ta pn pc sn sc bn bc tn tc ps ss bs ts) (hT : TwinC w lo g1 c1 g2 c2 g3 c3 g4 c4 pn sn bn tn ps ss bs ts) (lp : pn ≤ 1000000) (ls : sn ≤ 1000000) (lb : bn ≤ 1000000) (lt : tn ≤ 1000000) :
    Calls Tryd.prog 33 #[.agg #[.int .i64 nodes, .slice (some ⟨g1, 0, none⟩) pn c1, .slice (some ⟨g2, 0, none⟩) sn c2, .int .i64 long, .slice (some ⟨g3, 0, none⟩) bn c3, .slice (some ⟨g4, 0, none⟩) tn c4, .int .i64 miss, .int .i64 good, .int .i64 fresh], .agg #[.int .i64 nodes, .slice pa pn pc, .slice sa sn sc, .int .i64 long, .slice ba bn bc, .slice ta tn tc, .int .i64 miss, .int .i64 good, .int .i64 fresh]] w
      fun e w' => e = .returned (.bool true) ∧ Below w.heap.size w w' := by
  have hb0 := ((Below.refl w.heap.size w).alloc (Nat.le_refl _) (.cells #[.int .i64 nodes, .slice (some ⟨g1, 0, none⟩) pn c1, .slice (some ⟨g2, 0, none⟩) sn c2, .int .i64 long, .slice (some ⟨g3, 0, none⟩) bn c3, .slice (some ⟨g4, 0, none⟩) tn c4, .int .i64 miss, .int .i64 good, .int .i64 fresh] 25)).alloc (by simp) (.cells #[.int .i64 nodes, .slice pa pn pc, .slice sa sn sc, .int .i64 long, .slice ba bn bc, .slice ta tn tc, .int .i64 miss, .int .i64 good, .int .i64 fresh] 25)
  have r1 : ((w.alloc (.cells #[.int .i64 nodes, .slice (some ⟨g1, 0, none⟩) pn c1, .slice (some ⟨g2, 0, none⟩) sn c2, .int .i64 long, .slice (some ⟨g3, 0, none⟩) bn c3, .slice (some ⟨g4, 0, none⟩) tn c4, .int .i64 miss, .int .i64 good, .int .i64 fresh] 25)).alloc (.cells #[.int .i64 nodes, .slice pa pn pc, .slice sa sn sc, .int .i64 long, .slice ba bn bc, .slice ta tn tc, .int .i64 miss, .int .i64 good, .int .i64 fresh] 25)).heap[w.heap.size]? = some (.cells #[.int .i64 nodes, .slice (some ⟨g1, 0, none⟩) pn c1, .slice (some ⟨g2, 0, none⟩) sn c2, .int .i64 long, .slice (some ⟨g3, 0, none⟩) bn c3, .slice (some ⟨g4, 0, none⟩) tn c4, .int .i64 miss, .int .i64 good, .int .i64 fresh] 25 (0, 0)) := heap_alloc2_old w _ _
  have r2 : ((w.alloc (.cells #[.int .i64 nodes, .slice (some ⟨g1, 0, none⟩) pn c1, .slice (some ⟨g2, 0, none⟩) sn c2, .int .i64 long, .slice (some ⟨g3, 0, none⟩) bn c3, .slice (some ⟨g4, 0, none⟩) tn c4, .int .i64 miss, .int .i64 good, .int .i64 fresh] 25)).alloc (.cells #[.int .i64 nodes, .slice pa pn pc, .slice sa sn sc, .int .i64 long, .slice ba bn bc, .slice ta tn tc, .int .i64 miss, .int .i64 good, .int .i64 fresh] 25)).heap[w.heap.size + 1]? = some (.cells #[.int .i64 nodes, .slice pa pn pc, .slice sa sn sc, .int .i64 long, .slice ba bn bc, .slice ta tn tc, .int .i64 miss, .int .i64 good, .int .i64 fresh] 25 (0, 0)) := heap_new _ _ _ (by simp)
  have s0 : ((w.alloc (.cells #[.int .i64 nodes, .slice (some ⟨g1, 0, none⟩) pn c1, .slice (some ⟨g2, 0, none⟩) sn c2, .int .i64 long, .slice (some ⟨g3, 0, none⟩) bn c3, .slice (some ⟨g4, 0, none⟩) tn c4, .int .i64 miss, .int .i64 good, .int .i64 fresh] 25)).alloc (.cells #[.int .i64 nodes, .slice pa pn pc, .slice sa sn sc, .int .i64 long, .slice ba bn bc, .slice ta tn tc, .int .i64 miss, .int .i64 good, .int .i64 fresh] 25)).heap.size = w.heap.size + 2 := by simp
  generalize hW0 : ((w.alloc (.cells #[.int .i64 nodes, .slice (some ⟨g1, 0, none⟩) pn c1, .slice (some ⟨g2, 0, none⟩) sn c2, .int .i64 long, .slice (some ⟨g3, 0, none⟩) bn c3, .slice (some ⟨g4, 0, none⟩) tn c4, .int .i64 miss, .int .i64 good, .int .i64 fresh] 25)).alloc (.cells #[.int .i64 nodes, .slice pa pn pc, .slice sa sn sc, .int .i64 long, .slice ba bn bc, .slice ta tn tc, .int .i64 miss, .int .i64 good, .int .i64 fresh] 25)) = W0 at hb0 r1 r2 s0
  have K : ∀ W, Below W0.heap.size W0 W → W.cell? ⟨w.heap.size, 1, none⟩ = some (.slice (some ⟨g1, 0, none⟩) pn c1) ∧ W.cell? ⟨w.heap.size, 2, none⟩ = some (.slice (some ⟨g2, 0, none⟩) sn c2) ∧ W.cell? ⟨w.heap.size, 4, none⟩ = some (.slice (some ⟨g3, 0, none⟩) bn c3) ∧ W.cell? ⟨w.heap.size, 5, none⟩ = some (.slice (some ⟨g4, 0, none⟩) tn c4) ∧ W.cell? ⟨w.heap.size + 1, 1, none⟩ = some (.slice pa pn pc) ∧ W.cell? ⟨w.heap.size + 1, 2, none⟩ = some (.slice sa sn sc) ∧ W.cell? ⟨w.heap.size + 1, 4, none⟩ = some (.slice ba bn bc) ∧ W.cell? ⟨w.heap.size + 1, 5, none⟩ = some (.slice ta tn tc) := fun W hb => ⟨(hb.cell (p := ⟨w.heap.size, 1, none⟩) (by simp; omega)).trans (heap_cell r1 1), (hb.cell (p := ⟨w.heap.size, 2, none⟩) (by simp; omega)).trans (heap_cell r1 2), (hb.cell (p := ⟨w.heap.size, 4, none⟩) (by simp; omega)).trans (heap_cell r1 4), (hb.cell (p := ⟨w.heap.size, 5, none⟩) (by simp; omega)).trans (heap_cell r1 5), (hb.cell (p := ⟨w.heap.size + 1, 1, none⟩) (by simp; omega)).trans (heap_cell r2 1), (hb.cell (p := ⟨w.heap.size + 1, 2, none⟩) (by simp; omega)).trans (heap_cell r2 2), (hb.cell (p := ⟨w.heap.size + 1, 4, none⟩) (by simp; omega)).trans (heap_cell r2 4), (hb.cell (p := ⟨w.heap.size + 1, 5, none⟩) (by simp; omega)).trans (heap_cell r2 5)⟩
  have C0 := hC.below hb0
  have T0 := hT.below hb0
  have D1 : ∀ W, Below W0.heap.size W0 W → Calls Tryd.prog 42 #[.agg #[.int .i64 nodes, .slice (some ⟨g1, 0, none⟩) pn c1, .slice (some ⟨g2, 0, none⟩) sn c2, .int .i64 long, .slice (some ⟨g3, 0, none⟩) bn c3, .slice (some ⟨g4, 0, none⟩) tn c4, .int .i64 miss, .int .i64 good, .int .i64 fresh], .agg #[.int .i64 nodes, .slice pa pn pc, .slice sa sn sc, .int .i64 long, .slice ba bn bc, .slice ta tn tc, .int .i64 miss, .int .i64 good, .int .i64 fresh]] W fun e w' => e = .returned (.bool true) ∧ Below W0.heap.size W0 w' := fun W hb =>
    (sameconfig_any ps ss bs ts W ((T0.cfg lp ls lb lt nodes long miss good fresh).below hb) (C0.below hb) lp ls lb lt).mono fun e w' ⟨h1, h2⟩ => ⟨h1, hb.trans (h2.mono hb.size)⟩
  have D2 : ∀ W, Below W0.heap.size W0 W → Calls Tryd.prog 76 #[.slice (some ⟨g1, 0, none⟩) pn c1, .slice pa pn pc] W fun e w' => e = .returned (.bool true) ∧ Below W0.heap.size W0 w' := fun W hb =>
    (leftNums_any ps W (T0.1.below hb) (C0.rp.below hb) C0.op lp).mono fun e w' ⟨h1, h2⟩ => ⟨h1, hb.trans (h2.mono hb.size)⟩
  have D3 : ∀ W, Below W0.heap.size W0 W → Calls Tryd.prog 76 #[.slice (some ⟨g2, 0, none⟩) sn c2, .slice sa sn sc] W fun e w' => e = .returned (.bool true) ∧ Below W0.heap.size W0 w' := fun W hb =>
    (leftNums_any ss W (T0.2.1.below hb) (C0.rs.below hb) C0.os ls).mono fun e w' ⟨h1, h2⟩ => ⟨h1, hb.trans (h2.mono hb.size)⟩
  have D4 : ∀ W, Below W0.heap.size W0 W → Calls Tryd.prog 76 #[.slice (some ⟨g3, 0, none⟩) bn c3, .slice ba bn bc] W fun e w' => e = .returned (.bool true) ∧ Below W0.heap.size W0 w' := fun W hb =>
    (leftNums_any bs W (T0.2.2.1.below hb) (C0.rb.below hb) C0.ob lb).mono fun e w' ⟨h1, h2⟩ => ⟨h1, hb.trans (h2.mono hb.size)⟩
  have HT := Lib.hid T0.2.2.2
  have hc4 := T0.2.2.2.2.1
  have hc4b := T0.2.2.2.capb
  have HB0 := Lib.hid hb0
  have KK := Lib.hid K
  have E1 := Lib.hid D1
  have E2 := Lib.hid D2
  have E3 := Lib.hid D3
  have E4 := Lib.hid D4
  have HS0 := Lib.hid s0
  clear hb0 r1 r2 s0 K C0 T0 D1 D2 D3 D4 hC hT
  have HW := Lib.hid hW0
  clear hW0
  go_enter Tryd.func33, Tryd.ntmps33
  go_wp2_with fail
  rw [HW.out]
  refine (E1.out _ (Below.refl _ _)).mono ?_
  rintro e w1 ⟨rfl, h1⟩
  obtain ⟨t1, t2, t4, t5, u1, u2, u4, u5⟩ := KK.out _ h1
  go_wp2_with fail
  clear t1 t2 t4 t5 u1 u2 u4 u5
  refine (E2.out _ h1).mono ?_
  rintro e w2 ⟨rfl, h2⟩
  obtain ⟨t1, t2, t4, t5, u1, u2, u4, u5⟩ := KK.out _ h2
  go_wp2_with fail
  clear t1 t2 t4 t5 u1 u2 u4 u5
  refine (E3.out _ h2).mono ?_
  rintro e w3 ⟨rfl, h3⟩
  obtain ⟨t1, t2, t4, t5, u1, u2, u4, u5⟩ := KK.out _ h3
  go_wp2_with fail
  clear t1 t2 t4 t5 u1 u2 u4 u5
  refine (E4.out _ h3).mono ?_
  rintro e w4 ⟨rfl, h4⟩
  obtain ⟨t1, t2, t4, t5, u1, u2, u4, u5⟩ := KK.out _ h4
  have HT4 := HT.out.below h4
  have hl := HT4.len
  have y0 := HT4.cell tn (77, 0, 0) (by rw [List.getElem?_append_right (by omega), hl]; simp) 0 (by omega)
  have y1 := HT4.cell tn (77, 0, 0) (by rw [List.getElem?_append_right (by omega), hl]; simp) 1 (by omega)
  have y2 := HT4.cell tn (77, 0, 0) (by rw [List.getElem?_append_right (by omega), hl]; simp) 2 (by omega)
  simp only [eSt, List.getElem?_cons_zero, List.getElem?_cons_succ, Nat.add_zero] at y0 y1 y2
  have d1 : decide ((c4 : Int) < (tn : Int) + 1) = false := decide_eq_false (by omega)
  clear HT4 hl
  go_wp2_with fail
  go_ret
  exact ⟨rfl, HB0.out.trans (by first | exact h4.mono HB0.out.size | exact (below_drewN h4 _).mono HB0.out.size)⟩
end Go.Proofs.YtibncdkekceokaaDoor
