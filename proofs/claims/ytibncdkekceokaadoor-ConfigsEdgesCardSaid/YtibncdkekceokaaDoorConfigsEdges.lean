/- sennitlaw04.ConfigsEdges: the walk. -/
import Derived.Test.YtibncdkekceokaaDoorLives04
import Derived.Test.YtibncdkekceokaaDoorRefNew
import Derived.Deep.AppendLies
import Derived.Deep.RegionLaw
import Derived.Deep.RegionHeld3
namespace Go.Proofs.YtibncdkekceokaaDoor
open Go.RowKit

attribute [local go_sem ↓ high] cfgLoad_eq
attribute [local go_sem high] run_cfgLoad
theorem heap_set_else {w : World} {b c : Nat} (h : b ≠ c) (i : Nat) (v : Value) : (w.setCell ⟨b, i, none⟩ v).heap[c]? = w.heap[c]? := by
  simp [World.setCell, Array.getElem?_modify, h]
theorem reads_row {α : Type} {w : World} {b : Nat} {cs : Array Value} {t : TypeId} {fr : Nat × Nat} {enc : α → Value} (h : w.heap[b]? = some (.cells cs t fr)) (off n : Nat) (xs : List α) (hl : cs.toList.drop off = xs.map enc) (hn : xs.length = n) (hs : n ≤ 9223372036854775807) : Reads w enc (some ⟨b, off, none⟩) n xs :=
  ⟨hn, hs, fun i hi => ⟨b, off, rfl, by
    rw [heap_cell h, ← Array.getElem?_toList, ← List.getElem?_drop, hl]
    simp [hn, hi]⟩⟩
theorem readsSt_row {w : World} {b : Nat} {cs : Array Value} {t : TypeId} {fr : Nat × Nat} (h : w.heap[b]? = some (.cells cs t fr)) (n : Nat) (xs : List (Int × Int × Int)) (hl : ∀ j, j < xs.length * 3 → cs.toList[j]? = (xs.flatMap eSt)[j]?) (hn : xs.length = n) (hs : n ≤ 9223372036854775807) : ReadsSt w (some ⟨b, 0, none⟩) n xs :=
  ⟨hn, hs, fun i hi => by
    have key : ∀ r, r < 3 → w.cell? ⟨b, 0 + i * 3 + r, none⟩ = (eSt (xs[i]'(by omega)))[r]? := fun r hr => by
      rw [heap_cell h, ← Array.getElem?_toList, hl _ (by omega), flat3_get, show (0 + i * 3 + r) / 3 = i by omega, show (0 + i * 3 + r) % 3 = r by omega, List.getElem?_eq_getElem (by omega)]
      rfl
    exact ⟨b, 0, rfl, key 0 (by omega), key 1 (by omega), key 2 (by omega)⟩⟩
/-- The config that is tried, as it stands: its box, its boots, its stations. -/
structure Edge (w1 w : World) (g g1 g2 : Nat) (cs : Array Value) (bs st : Array Value) : Prop where
  below : Below w1.heap.size w1 w
  lo : w1.heap.size ≤ g
  lt1 : g < g1
  lt2 : g1 < g2
  box : w.heap[g]? = some (.cells cs 25 (0, 0))
  boots : w.heap[g1]? = some (.cells bs 3 (0, 0))
  stats : w.heap[g2]? = some (.cells st 53 (0, 0))
theorem Edge.set0 {w1 w : World} {g g1 g2 : Nat} {cs bs st : Array Value} (h : Edge w1 w g g1 g2 cs bs st) (i : Nat) (v : Value) : Edge w1 (w.setCell ⟨g, i, none⟩ v) g g1 g2 (cs.setIfInBounds i v) bs st :=
  ⟨h.below.setCell h.lo _, h.lo, h.lt1, h.lt2, heap_set_same h.box i v, (heap_set_else (by have := h.lt1; omega) _ _).trans h.boots, (heap_set_else (by have := h.lt1; have := h.lt2; omega) _ _).trans h.stats⟩
theorem Edge.set1 {w1 w : World} {g g1 g2 : Nat} {cs bs st : Array Value} (h : Edge w1 w g g1 g2 cs bs st) (i : Nat) (v : Value) : Edge w1 (w.setCell ⟨g1, i, none⟩ v) g g1 g2 cs (bs.setIfInBounds i v) st :=
  ⟨h.below.setCell (by simp only; have := h.lo; have := h.lt1; omega) _, h.lo, h.lt1, h.lt2, (heap_set_else (by have := h.lt1; omega) _ _).trans h.box, heap_set_same h.boots i v, (heap_set_else (by have := h.lt2; omega) _ _).trans h.stats⟩
theorem Edge.set2 {w1 w : World} {g g1 g2 : Nat} {cs bs st : Array Value} (h : Edge w1 w g g1 g2 cs bs st) (i : Nat) (v : Value) : Edge w1 (w.setCell ⟨g2, i, none⟩ v) g g1 g2 cs bs (st.setIfInBounds i v) :=
  ⟨h.below.setCell (by simp only; have := h.lo; have := h.lt1; have := h.lt2; omega) _, h.lo, h.lt1, h.lt2, (heap_set_else (by have := h.lt1; have := h.lt2; omega) _ _).trans h.box, (heap_set_else (by have := h.lt2; omega) _ _).trans h.boots, heap_set_same h.stats i v⟩
theorem Edge.later {w1 w w' : World} {g g1 g2 : Nat} {cs bs st : Array Value} (h : Edge w1 w g g1 g2 cs bs st) (hb : Below w.heap.size w w') : Edge w1 w' g g1 g2 cs bs st :=
  ⟨h.below.trans (hb.mono h.below.size), h.lo, h.lt1, h.lt2, (hb.block g (Array.getElem?_eq_some_iff.1 h.box).1).trans h.box, (hb.block g1 (Array.getElem?_eq_some_iff.1 h.boots).1).trans h.boots, (hb.block g2 (Array.getElem?_eq_some_iff.1 h.stats).1).trans h.stats⟩

theorem Edge.cfg {w1 w : World} {g g1 g2 : Nat} {cs bs st : Array Value} {pa sa ba : Option Addr} (h : Edge w1 w g g1 g2 cs bs st) (hC : CfgIn w1 4 120 3 3 3 pa sa ba none 2 2 3 3 4 4 0 0 [0, 2] [0, 1, 1] [0, 0, 0, 0] []) (nodes long miss good fresh : Int) (bs' : List Int) (ts' : List (Int × Int × Int)) (m : Nat) (hb : bs.toList = bs'.map eI) (hbl : bs'.length = m) (hm : m ≤ 20)
    (ht : ∀ j, j < ts'.length * 3 → st.toList[j]? = (ts'.flatMap eSt)[j]?) (tn tc : Nat) (htl : ts'.length = tn) (htc : tn ≤ tc) (htn : tn ≤ 20) : CfgIn w nodes long miss good fresh pa sa (some ⟨g1, 0, none⟩) (some ⟨g2, 0, none⟩) 2 2 3 3 m m tn tc [0, 2] [0, 1, 1] bs' ts' :=
  have hC' := hC.below h.below
  ⟨hC'.op, hC'.os, ⟨Nat.le_refl _, (fun h => by cases h), fun _ h => by cases h; exact ⟨g1, 0, rfl⟩⟩, ⟨htc, (fun h => by cases h), fun _ h => by cases h; exact ⟨g2, 0, rfl⟩⟩, hC'.rp, hC'.rs, reads_row h.boots 0 m bs' hb hbl (by omega), readsSt_row h.stats tn ts' ht htl (by omega)⟩
theorem Edge.wrong {w1 w v : World} {g g1 g2 : Nat} {cs bs st : Array Value} {nodes long miss good fresh : Int} {pa sa ba ta : Option Addr} {pn pc sn sc bn bc tn tc : Nat} {ps ss bl : List Int} {ts : List (Int × Int × Int)} (h : Edge w1 w g g1 g2 cs bs st) (hs : Signs v) (hv : Below v.heap.size v w1) (hC : CfgIn w nodes long miss good fresh pa sa ba ta pn pc sn sc bn bc tn tc ps ss bl ts) (x : Int) (hx : (Cfg.mk nodes long miss good fresh ps ss bl ts).err = x) :
    Calls Tryd.prog 34 #[.agg #[.int .i64 nodes, .slice pa pn pc, .slice sa sn sc, .int .i64 long, .slice ba bn bc, .slice ta tn tc, .int .i64 miss, .int .i64 good, .int .i64 fresh]] w fun e w' => e = .returned (.int .i64 x) ∧ Edge w1 w' g g1 g2 cs bs st :=
  (wrong_any nodes long miss good fresh pa sa ba ta pn pc sn sc bn bc tn tc ps ss bl ts w (hs.below (hv.trans (h.below.mono hv.size))) hC).mono fun _ _ ⟨h1, h2⟩ => ⟨h1.trans (ret_int hx), h.later h2⟩
theorem Edge.lives {w1 w v : World} {g g1 g2 : Nat} {cs bs st : Array Value} (h : Edge w1 w g g1 g2 cs bs st) (hs : Signs v) (hv : Below v.heap.size v w1) :
    Calls Tryd.prog 31 #[] w fun e w' => e = .returned (.bool true) ∧ Below v.heap.size v w' :=
  (lives04_any w (hs.below (hv.trans (h.below.mono hv.size)))).mono fun _ _ ⟨h1, h2⟩ => ⟨h1, (hv.trans (h.below.mono hv.size)).trans (h2.mono (hv.trans (h.below.mono hv.size)).size)⟩
theorem info_intE : (Tryd.prog.info? 3).map (fun i => (i.zero, i.size, i.bytes)) = some (some (.int .i64 0), 1, 8) := by kernel_rfl
def edC (k : Nat) (l : Int) (b : List Int) (t : List (Int × Int × Int)) (ss : List Int) (m g f : Int) : Cfg := Cfg.mk (4 + k) l m g f [0, 2] ss b t
theorem pe_base : ∀ k : Nat, k < 13 → (Cfg.mk (4 + (k : Int)) (4 + k + 116) 3 3 3 [0, 2] [0, 1, 1] (List.replicate (4 + k) 0) [(4 + k - 1, 0, 100)]).err = 0 := by decide +kernel
theorem pe0 : ∀ k : Nat, k < 13 → (Cfg.mk (4 + (k : Int)) (4 + (k : Int) + 116 - 1) 3 3 3 [0, 2] [0, 1, 1] (List.replicate (4 + k) 0) [(4 + (k : Int) - 1, 0, 100)]).err = 1 := by decide +kernel
theorem pe8 : ∀ k : Nat, k < 13 → (Cfg.mk (4 + (k : Int)) (4 + (k : Int) + 116) 0 3 3 [0, 2] [0, 1, 1] (List.replicate (4 + k) 0) [(4 + (k : Int) - 1, 0, 100)]).err = 1 := by decide +kernel
theorem pe9 : ∀ k : Nat, k < 13 → (Cfg.mk (4 + (k : Int)) (4 + (k : Int) + 116) 3 101 3 [0, 2] [0, 1, 1] (List.replicate (4 + k) 0) [(4 + (k : Int) - 1, 0, 100)]).err = 3 := by decide +kernel
theorem pe10 : ∀ k : Nat, k < 13 → (Cfg.mk (4 + (k : Int)) (4 + (k : Int) + 116) 3 3 0 [0, 2] [0, 1, 1] (List.replicate (4 + k) 0) [(4 + (k : Int) - 1, 0, 100)]).err = 1 := by decide +kernel
theorem pe5 : ∀ k : Nat, k < 13 → (Cfg.mk (4 + (k : Int)) (4 + (k : Int) + 116) 3 3 3 [0, 2] [0, 1, 1] (List.replicate (4 + k) 0) [(4 + (k : Int), 0, 100)]).err = 1 := by decide +kernel
theorem pe6 : ∀ k : Nat, k < 13 → (Cfg.mk (4 + (k : Int)) (4 + (k : Int) + 116) 3 3 3 [0, 2] [0, 1, 1] (List.replicate (4 + k) 0) [(4 + (k : Int) - 1, 0, 101)]).err = 3 := by decide +kernel
theorem pe7 : ∀ k : Nat, k < 13 → (Cfg.mk (4 + (k : Int)) (4 + (k : Int) + 116) 3 3 3 [0, 2] [0, 1, 1] (List.replicate (4 + k) 0) [(4 + (k : Int) - 1, 0, 0)]).err = 1 := by decide +kernel
theorem pe1a : ∀ k : Nat, k < 13 → (Cfg.mk (4 + (k : Int)) (4096) 3 3 3 [0, 2] [0, 1, 1] (List.replicate (4 + k) 0) [(4 + (k : Int) - 1, 0, 100)]).err = 0 := by decide +kernel
theorem pe1b : ∀ k : Nat, k < 13 → (Cfg.mk (4 + (k : Int)) (4097) 3 3 3 [0, 2] [0, 1, 1] (List.replicate (4 + k) 0) [(4 + (k : Int) - 1, 0, 100)]).err = 3 := by decide +kernel
theorem pe2 : ∀ k : Nat, k < 13 → (Cfg.mk (4 + (k : Int)) (4 + (k : Int) + 116) 3 3 3 [0, 2] [0, 1, 1] ((List.replicate (4 + k) 0).set (3 + k) 4097) [(4 + (k : Int) - 1, 0, 100)]).err = 3 := by decide +kernel
theorem pe3 : ∀ k : Nat, k < 13 → (Cfg.mk (4 + (k : Int)) (4 + (k : Int) + 116) 3 3 3 [0, 2] [0, 1, 1] ((List.replicate (4 + k) 0).set 0 (-1)) [(4 + (k : Int) - 1, 0, 100)]).err = 1 := by decide +kernel
theorem pe4 : ∀ k : Nat, k < 13 → (Cfg.mk (4 + (k : Int)) (4 + (k : Int) + 116) 3 3 3 [0, 2] [0, 1, 1] (List.replicate (3 + k) 0) [(4 + (k : Int) - 1, 0, 100)]).err = 1 := by decide +kernel
theorem pe11 : ∀ k : Nat, k < 13 → (Cfg.mk (4 + (k : Int)) (4 + (k : Int) + 116) 3 3 3 [0, 2] [0, 0, 0] (List.replicate (4 + k) 0) [(4 + (k : Int) - 1, 0, 100)]).err = 1 := by decide +kernel
theorem pe12 : ∀ k : Nat, k < 13 → (Cfg.mk (4 + (k : Int)) (4 + (k : Int) + 116) 3 3 3 [0, 2] (List.replicate 17 0) (List.replicate (4 + k) 0) [(4 + (k : Int) - 1, 0, 100)]).err = 3 := by decide +kernel
/-- How many elements the slice in a cell has. -/
def lenAt (w : World) (a : Addr) : Nat := match w.cell? a with | some (.slice _ n _) => n | _ => 0
def boxC (k : Nat) (pa sa : Option Addr) (g1 : Nat) (gs j cap : Nat) : Array Value := #[.int .i64 (4 + (k : Int)), .slice pa 2 2, .slice sa 3 3, .int .i64 (4 + (k : Int) + 116), .slice (some ⟨g1, 0, none⟩) (4 + k) (4 + k), .slice (some ⟨gs, 0, none⟩) j cap, .int .i64 3, .int .i64 3, .int .i64 3]
/-- The stations while they are appended. -/
structure Stats (w1 w : World) (g g1 : Nat) (box : Nat → Nat → Nat → Array Value) (bs : Array Value) (one : Int × Int × Int) (j gs cap : Nat) (cur : Array Value) : Prop where
  edge : Edge w1 w g g1 gs (box gs j cap) bs cur
  j1 : 1 ≤ j
  j9 : j ≤ 9
  jc : j ≤ cap
  cm : cap ≤ maxLen
  size : cur.size = cap * 3
  take : cur.toList.take (j * 3) = (List.replicate j one).flatMap eSt
theorem Stats.own {w1 w : World} {g g1 : Nat} {box : Nat → Nat → Nat → Array Value} {bs : Array Value} {one : Int × Int × Int} {j gs cap : Nat} {cur : Array Value} (h : Stats w1 w g g1 box bs one j gs cap cur) : w.ownsRow (g1 + 1) 53 3 (.slice (some ⟨gs, 0, none⟩) j cap) j ((List.replicate j one).flatMap eSt) :=
  ⟨by rw [flat3_length]; simp, .inr ⟨gs, cap, cur, rfl, h.edge.lt2, h.edge.stats, h.jc, h.cm, h.size, h.take⟩⟩
theorem Stats.get {w1 w : World} {g g1 : Nat} {box : Nat → Nat → Nat → Array Value} {bs : Array Value} {one : Int × Int × Int} {j gs cap : Nat} {cur : Array Value} (h : Stats w1 w g g1 box bs one j gs cap cur) (i : Nat) (hi : i < (List.replicate j one).length * 3) : cur.toList[i]? = ((List.replicate j one).flatMap eSt)[i]? := by
  rw [← h.take, List.getElem?_take, if_pos (by simpa using hi)]
theorem Stats.cell {w1 w : World} {g g1 : Nat} {box : Nat → Nat → Nat → Array Value} {bs : Array Value} {one : Int × Int × Int} {j gs cap : Nat} {cur : Array Value} (h : Stats w1 w g g1 box bs one j gs cap cur) (i : Nat) (hi : i < 3) : w.cell? ⟨gs, i, none⟩ = (eSt one)[i]? := by
  have h1 := h.j1
  rw [heap_cell h.edge.stats, ← Array.getElem?_toList, h.get i (by simp; omega), flat3_get, show i / 3 = 0 by omega, show i % 3 = i by omega, List.getElem?_replicate, if_pos (by omega)]
  rfl
theorem Stats.step {w1 w W V : World} {g g1 : Nat} {box : Nat → Nat → Nat → Array Value} {bs : Array Value} {one : Int × Int × Int} {j gs cap : Nat} {cur : Array Value} (h : Stats w1 w g g1 box bs one j gs cap cur) (hj : j ≤ 8) {v' : Value} (hW : Below w.heap.size w W)
    (ho : V.ownsRow (g1 + 1) 53 3 v' (j + 1) ((List.replicate j one).flatMap eSt ++ eSt one)) (hg : W.grownBy V (some gs)) (hbox : ∀ gs' cap', (box gs j cap).setIfInBounds 5 (.slice (some ⟨gs', 0, none⟩) (j + 1) cap') = box gs' (j + 1) cap') :
    ∃ gs' cap' cur', v' = .slice (some ⟨gs', 0, none⟩) (j + 1) cap' ∧ Stats w1 (V.setCell ⟨g, 5, none⟩ v') g g1 box bs one (j + 1) gs' cap' cur' := by
  obtain ⟨hl, ⟨_, h0⟩ | ⟨gs', cap', cur', rfl, h1, h2, h3, h4, h5, h6⟩⟩ := ho
  · omega
  · have l1 := h.edge.lt1
    have l2 := h.edge.lt2
    have eW := h.edge.later hW
    have bx := (hg.block g (Array.getElem?_eq_some_iff.1 eW.box).1 (fun e => by simp at e; omega)).trans eW.box
    have bo := (hg.block g1 (Array.getElem?_eq_some_iff.1 eW.boots).1 (fun e => by simp at e; omega)).trans eW.boots
    refine ⟨gs', cap', cur', rfl, ⟨⟨(eW.below.grown hg eW.below.size (fun k hk => by simp at hk; have := h.edge.lo; omega)).setCell h.edge.lo _, h.edge.lo, l1, h1, ?_, (heap_set_else (by omega) _ _).trans bo, (heap_set_else (by omega) _ _).trans h2⟩, by omega, by omega, h3, h4, h5, ?_⟩⟩
    · rw [← hbox gs' cap']
      exact heap_set_same bx 5 _
    · rw [h6, List.replicate_succ', List.flatMap_append]
      simp
theorem Stats.base {w1 w : World} {g g1 : Nat} {box : Nat → Nat → Nat → Array Value} {bs : Array Value} {one : Int × Int × Int} {j gs cap : Nat} {cur : Array Value} (h : Stats w1 w g g1 box bs one j gs cap cur) (q : Nat) (o : Obj) : g1 + 1 ≤ ((w.drewN q).alloc o).heap.size := by
  have := h.edge.lt2
  have := (Array.getElem?_eq_some_iff.1 h.edge.stats).1
  simp
  omega
theorem Stats.after {w1 w V : World} {g g1 : Nat} {bs : Array Value} {one : Int × Int × Int} {j gs cap k : Nat} {pa sa : Option Addr} {cur : Array Value} (h : Stats w1 w g g1 (boxC k pa sa g1) bs one j gs cap cur) (q : Nat) (o : Obj) (hg : ((w.drewN q).alloc o).grownBy V (Value.slice (some ⟨gs, 0, none⟩) j cap).ownBlock) :
    V.cell? ⟨g, 5, none⟩ = some (.slice (some ⟨gs, 0, none⟩) j cap) ∧ V.frozen? ⟨g, 5, none⟩ = false := by
  have l1 := h.edge.lt1
  have l2 := h.edge.lt2
  have hs := (Array.getElem?_eq_some_iff.1 h.edge.box).1
  have b := (hg.block g (by simp; omega) (fun e => by simp [Value.ownBlock] at e; omega)).trans ((heap_alloc_old _ _ (by simpa using hs)).trans (show (w.drewN q).heap[g]? = _ from h.edge.box))
  exact ⟨heap_cell b 5, heap_thawed b 5⟩
theorem pe13a : ∀ k : Nat, k < 13 → ∀ j : Nat, j < 9 → 1 ≤ j → (Cfg.mk (4 + (k : Int)) (4 + (k : Int) + 116) 3 3 3 [0, 2] [0, 1, 1] (List.replicate (4 + k) 0) (List.replicate j (4 + (k : Int) - 1, 0, 100))).err = 0 := by decide +kernel
theorem pe13b : ∀ k : Nat, k < 13 → (Cfg.mk (4 + (k : Int)) (4 + (k : Int) + 116) 3 3 3 [0, 2] [0, 1, 1] (List.replicate (4 + k) 0) (List.replicate 9 (4 + (k : Int) - 1, 0, 100))).err = 3 := by decide +kernel
set_option maxRecDepth 100000 in
set_option maxHeartbeats 8000000 in
theorem configsEdges_walk (which nodes : Nat) (hwb : which ≤ 255) (hnb : nodes ≤ 255) (w : World) (hs : Signs w) :
    Calls Tryd.prog 8 #[.int .u8 which, .int .u8 nodes] w fun e w' => e = .returned (.bool true) ∧ Below w.heap.size w w' := by
  have HS := Lib.hid hs
  clear hs
  obtain ⟨k, hk⟩ : ∃ k : Nat, k = nodes % 13 := ⟨_, rfl⟩
  have hk13 : k < 13 := by omega
  have hm : (nodes : Int).tmod 13 = k := by rw [Int.tmod_eq_emod_of_nonneg (by omega)]; omega
  clear hk
  go_enter Tryd.func8, Tryd.ntmps8
  go_wp2_with fail
  refine (small_any _).mono ?_
  rintro e w1 ⟨pa, sa, ba, rfl, hC, hb1⟩
  have hmk : ∀ w : World, (Instr.makeSlice 22 (.int .i64 (4 + (k : Int))) (.int .i64 (4 + (k : Int)))).run Tryd.prog w = .ok (.slice (some ⟨w.heap.size, 0, none⟩) (4 + k) (4 + k)) (w.alloc (.cells (List.replicate (4 + k) (.int .i64 0)).toArray 3)) := fun w => by
    have h := make_row (.int .i64 0) 8 Tryd.underlying22 info_intE rfl (by omega) (4 + k) (by omega) w
    rw [Int.natCast_add] at h
    exact h
  go_wp2_with fail
  have HB1 := Lib.hid hb1
  have HC := Lib.hid hC
  have hE : Edge w1 (((w1.alloc (.cells #[.int .i64 (4 + (k : Int)), .slice pa 2 2, .slice sa 3 3, .int .i64 (4 + (k : Int) + 116), .slice (some ⟨w1.heap.size + 1, 0, none⟩) (4 + k) (4 + k), .slice (some ⟨w1.heap.size + 1 + 1, 0, none⟩) 1 1, .int .i64 3, .int .i64 3, .int .i64 3] 25)).alloc (.cells (Array.replicate (4 + k) (.int .i64 0)) 3)).alloc (.cells #[.int .i64 (4 + (k : Int) - 1), .int .u32 0, .int .i64 100] 53)) w1.heap.size (w1.heap.size + 1) (w1.heap.size + 1 + 1)
      #[.int .i64 (4 + (k : Int)), .slice pa 2 2, .slice sa 3 3, .int .i64 (4 + (k : Int) + 116), .slice (some ⟨w1.heap.size + 1, 0, none⟩) (4 + k) (4 + k), .slice (some ⟨w1.heap.size + 1 + 1, 0, none⟩) 1 1, .int .i64 3, .int .i64 3, .int .i64 3] (Array.replicate (4 + k) (.int .i64 0)) #[.int .i64 (4 + (k : Int) - 1), .int .u32 0, .int .i64 100] :=
    ⟨(((Below.refl _ _).alloc (Nat.le_refl _) _).alloc (by simp) _).alloc (by simp; omega) _, Nat.le_refl _, Nat.lt_succ_self _, Nat.lt_succ_self _, by rw [heap_alloc_old _ _ (by simp; omega)]; exact heap_alloc2_old w1 _ _, by rw [heap_alloc_old _ _ (by simp)]; exact heap_new _ _ _ (by simp), heap_new _ _ _ (by simp)⟩
  generalize ((w1.alloc (.cells #[.int .i64 (4 + (k : Int)), .slice pa 2 2, .slice sa 3 3, .int .i64 (4 + (k : Int) + 116), .slice (some ⟨w1.heap.size + 1, 0, none⟩) (4 + k) (4 + k), .slice (some ⟨w1.heap.size + 1 + 1, 0, none⟩) 1 1, .int .i64 3, .int .i64 3, .int .i64 3] 25)).alloc (.cells (Array.replicate (4 + k) (.int .i64 0)) 3)).alloc (.cells #[.int .i64 (4 + (k : Int) - 1), .int .u32 0, .int .i64 100] 53) = W0 at hE ⊢
  obtain ⟨g, hg⟩ : ∃ g, g = w1.heap.size := ⟨_, rfl⟩
  rw [← hg] at hE ⊢
  obtain ⟨g1, hg1⟩ : ∃ g1, g1 = g + 1 := ⟨_, rfl⟩
  rw [← hg1] at hE ⊢
  obtain ⟨g2, hg2⟩ : ∃ g2, g2 = g1 + 1 := ⟨_, rfl⟩
  rw [← hg2] at hE ⊢
  clear hg hg1 hg2 hC hb1 hmk
  have HE := Lib.hid hE
  have r0 := hE.box
  clear hE
  rw [run_cfgLoad W0 g _ r0 rfl]
  go_wp2_with fail
  have c0 := HE.out.cfg HC.out (4 + k) (4 + k + 116) 3 3 3 (List.replicate (4 + k) 0) [(4 + k - 1, 0, 100)] (4 + k) (by simp [eI]) (by simp) (by omega) (fun j _ => rfl) 1 1 rfl (by omega) (by omega)
  refine (HE.out.wrong HS.out HB1.out c0 0 (pe_base k hk13)).mono ?_
  rintro e W1 ⟨rfl, hE⟩
  have HE1 := Lib.hid hE
  clear hE r0 HE c0
  obtain ⟨m, hw⟩ : ∃ m, m = which % 14 := ⟨_, rfl⟩
  have hm14 : m < 14 := by omega
  have hw' : (which : Int) % 14 = (m : Int) := by omega
  clear hw
  have hcs : m = 0 ∨ m = 1 ∨ m = 2 ∨ m = 3 ∨ m = 4 ∨ m = 5 ∨ m = 6 ∨ m = 7 ∨ m = 8 ∨ m = 9 ∨ m = 10 ∨ m = 11 ∨ m = 12 ∨ m = 13 := by omega
  clear hm14
  rcases hcs with rfl | rfl | rfl | rfl | rfl | rfl | rfl | rfl | rfl | rfl | rfl | rfl | rfl | rfl
  · -- 0
    have vg_3 : W1.cell? ⟨g, 3, none⟩ = some (.int .i64 (4 + (k : Int) + 116)) := heap_cell HE1.out.box 3
    have zg_3 : W1.frozen? ⟨g, 3, none⟩ = false := heap_thawed HE1.out.box 3
    go_wp2_with fail
    obtain ⟨W2, hW2⟩ : ∃ W2, W2 = W1.setCell ⟨g, 3, none⟩ (.int .i64 (4 + (k : Int) + 116 - 1)) := ⟨_, rfl⟩
    rw [← hW2]
    have hE2 : Edge w1 W2 g g1 g2 #[.int .i64 (4 + (k : Int)), .slice pa 2 2, .slice sa 3 3, .int .i64 (4 + (k : Int) + 116 - 1), .slice (some ⟨g1, 0, none⟩) (4 + k) (4 + k), .slice (some ⟨g2, 0, none⟩) 1 1, .int .i64 3, .int .i64 3, .int .i64 3] (Array.replicate (4 + k) (.int .i64 0)) #[.int .i64 (4 + (k : Int) - 1), .int .u32 0, .int .i64 100] := by rw [hW2]; exact HE1.out.set0 3 _
    have HE2 := Lib.hid hE2
    have r2 := hE2.box
    clear hE2 hW2
    rw [run_cfgLoad W2 g _ r2 rfl]
    clear r2
    go_wp2_with fail
    have c2 := HE2.out.cfg HC.out (4 + k) (4 + k + 116 - 1) 3 3 3 (List.replicate (4 + k) 0) [(4 + (k : Int) - 1, 0, 100)] (4 + k) (by simp [eI]) (by simp) (by omega) (fun j _ => rfl) 1 1 rfl (by omega) (by omega)
    refine (HE2.out.wrong HS.out HB1.out c2 1 (pe0 k hk13)).mono ?_
    clear c2
    rintro e W3 ⟨rfl, hE3⟩
    have HE3 := Lib.hid hE3
    clear hE3
    go_wp2_with fail
    refine (HE3.out.lives HS.out HB1.out).mono ?_
    rintro e W4 ⟨rfl, hb4⟩
    go_wp2
    go_ret
    exact ⟨rfl, hb4⟩
  · -- 1
    have v0 : W1.cell? ⟨g, 3, none⟩ = some (.int .i64 (4 + (k : Int) + 116)) := heap_cell HE1.out.box 3
    have z0 : W1.frozen? ⟨g, 3, none⟩ = false := heap_thawed HE1.out.box 3
    go_wp2_with fail
    obtain ⟨W2, hW⟩ : ∃ W2, W2 = W1.setCell ⟨g, 3, none⟩ (.int .i64 4096) := ⟨_, rfl⟩
    rw [← hW]
    have hE : Edge w1 W2 g g1 g2 #[.int .i64 (4 + (k : Int)), .slice pa 2 2, .slice sa 3 3, .int .i64 4096, .slice (some ⟨g1, 0, none⟩) (4 + k) (4 + k), .slice (some ⟨g2, 0, none⟩) 1 1, .int .i64 3, .int .i64 3, .int .i64 3] (Array.replicate (4 + k) (.int .i64 0)) #[.int .i64 (4 + (k : Int) - 1), .int .u32 0, .int .i64 100] := by rw [hW]; exact HE1.out.set0 3 _
    have HE2 := Lib.hid hE
    clear hE hW
    have r2 := HE2.out.box
    rw [run_cfgLoad W2 g _ r2 rfl]
    clear r2
    go_wp2_with fail
    have c2 := HE2.out.cfg HC.out (4 + k) 4096 3 3 3 (List.replicate (4 + k) 0) [(4 + (k : Int) - 1, 0, 100)] (4 + k) (by simp [eI]) (by simp) (by omega) (fun j _ => rfl) 1 1 rfl (by omega) (by omega)
    refine (HE2.out.wrong HS.out HB1.out c2 0 (pe1a k hk13)).mono ?_
    clear c2
    rintro e W3 ⟨rfl, hE⟩
    have HE3 := Lib.hid hE
    clear hE
    clear v0 z0
    have v0 : W3.cell? ⟨g, 3, none⟩ = some (.int .i64 4096) := heap_cell HE3.out.box 3
    have z0 : W3.frozen? ⟨g, 3, none⟩ = false := heap_thawed HE3.out.box 3
    go_wp2_with fail
    obtain ⟨W4, hW⟩ : ∃ W4, W4 = W3.setCell ⟨g, 3, none⟩ (.int .i64 4097) := ⟨_, rfl⟩
    rw [← hW]
    have hE : Edge w1 W4 g g1 g2 #[.int .i64 (4 + (k : Int)), .slice pa 2 2, .slice sa 3 3, .int .i64 4097, .slice (some ⟨g1, 0, none⟩) (4 + k) (4 + k), .slice (some ⟨g2, 0, none⟩) 1 1, .int .i64 3, .int .i64 3, .int .i64 3] (Array.replicate (4 + k) (.int .i64 0)) #[.int .i64 (4 + (k : Int) - 1), .int .u32 0, .int .i64 100] := by rw [hW]; exact HE3.out.set0 3 _
    have HE4 := Lib.hid hE
    clear hE hW
    have r2 := HE4.out.box
    rw [run_cfgLoad W4 g _ r2 rfl]
    clear r2
    go_wp2_with fail
    have c2 := HE4.out.cfg HC.out (4 + k) 4097 3 3 3 (List.replicate (4 + k) 0) [(4 + (k : Int) - 1, 0, 100)] (4 + k) (by simp [eI]) (by simp) (by omega) (fun j _ => rfl) 1 1 rfl (by omega) (by omega)
    refine (HE4.out.wrong HS.out HB1.out c2 3 (pe1b k hk13)).mono ?_
    clear c2
    rintro e W5 ⟨rfl, hE⟩
    have HE5 := Lib.hid hE
    clear hE
    go_wp2_with fail
    refine (HE5.out.lives HS.out HB1.out).mono ?_
    rintro e W9 ⟨rfl, hb4⟩
    go_wp2
    go_ret
    exact ⟨rfl, hb4⟩
  · -- 2
    have v0 : W1.cell? ⟨g, 0, none⟩ = some (.int .i64 (4 + (k : Int))) := heap_cell HE1.out.box 0
    have z0 : W1.frozen? ⟨g, 0, none⟩ = false := heap_thawed HE1.out.box 0
    have v1 : W1.cell? ⟨g, 4, none⟩ = some (.slice (some ⟨g1, 0, none⟩) (4 + k) (4 + k)) := heap_cell HE1.out.box 4
    have z1 : W1.frozen? ⟨g, 4, none⟩ = false := heap_thawed HE1.out.box 4
    have v2 : W1.cell? ⟨g1, 3 + k, none⟩ = some (.int .i64 0) := (heap_cell HE1.out.boots (3 + k)).trans (by simp)
    have z2 : W1.frozen? ⟨g1, 3 + k, none⟩ = false := heap_thawed HE1.out.boots _
    have q2 : (4 + (k : Int) - 1).toNat = 3 + k := by omega
    have q3 : (4 + (k : Int) - 1) = ((3 + k : Nat) : Int) := by omega
    go_wp2_with fail
    obtain ⟨W2, hW⟩ : ∃ W2, W2 = W1.setCell ⟨g1, 3 + k, none⟩ (.int .i64 4097) := ⟨_, rfl⟩
    rw [← hW]
    have hE : Edge w1 W2 g g1 g2 #[.int .i64 (4 + (k : Int)), .slice pa 2 2, .slice sa 3 3, .int .i64 (4 + (k : Int) + 116), .slice (some ⟨g1, 0, none⟩) (4 + k) (4 + k), .slice (some ⟨g2, 0, none⟩) 1 1, .int .i64 3, .int .i64 3, .int .i64 3] ((Array.replicate (4 + k) (.int .i64 0)).setIfInBounds (3 + k) (.int .i64 4097)) #[.int .i64 (4 + (k : Int) - 1), .int .u32 0, .int .i64 100] := by rw [hW]; exact HE1.out.set1 (3 + k) _
    have HE2 := Lib.hid hE
    clear hE hW
    have r2 := HE2.out.box
    rw [run_cfgLoad W2 g _ r2 rfl]
    clear r2
    go_wp2_with fail
    have c2 := HE2.out.cfg HC.out (4 + k) (4 + k + 116) 3 3 3 ((List.replicate (4 + k) 0).set (3 + k) 4097) [(4 + (k : Int) - 1, 0, 100)] (4 + k) (by simp [eI, List.map_set]) (by simp) (by omega) (fun j _ => rfl) 1 1 rfl (by omega) (by omega)
    refine (HE2.out.wrong HS.out HB1.out c2 3 (pe2 k hk13)).mono ?_
    clear c2
    rintro e W3 ⟨rfl, hE⟩
    have HE3 := Lib.hid hE
    clear hE
    go_wp2_with fail
    refine (HE3.out.lives HS.out HB1.out).mono ?_
    rintro e W9 ⟨rfl, hb4⟩
    go_wp2
    go_ret
    exact ⟨rfl, hb4⟩
  · -- 3
    have v0 : W1.cell? ⟨g, 4, none⟩ = some (.slice (some ⟨g1, 0, none⟩) (4 + k) (4 + k)) := heap_cell HE1.out.box 4
    have z0 : W1.frozen? ⟨g, 4, none⟩ = false := heap_thawed HE1.out.box 4
    have v2 : W1.cell? ⟨g1, 0, none⟩ = some (.int .i64 0) := by rw [heap_cell HE1.out.boots 0, Array.getElem?_replicate, if_pos (by omega)]
    have z2 : W1.frozen? ⟨g1, 0, none⟩ = false := heap_thawed HE1.out.boots _
    go_wp2_with fail
    obtain ⟨W2, hW⟩ : ∃ W2, W2 = W1.setCell ⟨g1, 0, none⟩ (.int .i64 (-1)) := ⟨_, rfl⟩
    rw [← hW]
    have hE : Edge w1 W2 g g1 g2 #[.int .i64 (4 + (k : Int)), .slice pa 2 2, .slice sa 3 3, .int .i64 (4 + (k : Int) + 116), .slice (some ⟨g1, 0, none⟩) (4 + k) (4 + k), .slice (some ⟨g2, 0, none⟩) 1 1, .int .i64 3, .int .i64 3, .int .i64 3] ((Array.replicate (4 + k) (.int .i64 0)).setIfInBounds 0 (.int .i64 (-1))) #[.int .i64 (4 + (k : Int) - 1), .int .u32 0, .int .i64 100] := by rw [hW]; exact HE1.out.set1 0 _
    have HE2 := Lib.hid hE
    clear hE hW
    have r2 := HE2.out.box
    rw [run_cfgLoad W2 g _ r2 rfl]
    clear r2
    go_wp2_with fail
    have c2 := HE2.out.cfg HC.out (4 + k) (4 + k + 116) 3 3 3 ((List.replicate (4 + k) 0).set 0 (-1)) [(4 + (k : Int) - 1, 0, 100)] (4 + k) (by simp [eI, List.map_set]) (by simp) (by omega) (fun j _ => rfl) 1 1 rfl (by omega) (by omega)
    refine (HE2.out.wrong HS.out HB1.out c2 1 (pe3 k hk13)).mono ?_
    clear c2
    rintro e W3 ⟨rfl, hE⟩
    have HE3 := Lib.hid hE
    clear hE
    go_wp2_with fail
    refine (HE3.out.lives HS.out HB1.out).mono ?_
    rintro e W9 ⟨rfl, hb4⟩
    go_wp2
    go_ret
    exact ⟨rfl, hb4⟩
  · -- 4
    have v0 : W1.cell? ⟨g, 4, none⟩ = some (.slice (some ⟨g1, 0, none⟩) (4 + k) (4 + k)) := heap_cell HE1.out.box 4
    have z0 : W1.frozen? ⟨g, 4, none⟩ = false := heap_thawed HE1.out.box 4
    go_wp2_with fail
    obtain ⟨W2, hW⟩ : ∃ W2, W2 = W1.setCell ⟨g, 4, none⟩ (.slice (some ⟨g1, 1, none⟩) (3 + k) (3 + k)) := ⟨_, rfl⟩
    rw [← hW]
    have hE : Edge w1 W2 g g1 g2 #[.int .i64 (4 + (k : Int)), .slice pa 2 2, .slice sa 3 3, .int .i64 (4 + (k : Int) + 116), .slice (some ⟨g1, 1, none⟩) (3 + k) (3 + k), .slice (some ⟨g2, 0, none⟩) 1 1, .int .i64 3, .int .i64 3, .int .i64 3] (Array.replicate (4 + k) (.int .i64 0)) #[.int .i64 (4 + (k : Int) - 1), .int .u32 0, .int .i64 100] := by rw [hW]; exact HE1.out.set0 4 _
    have HE2 := Lib.hid hE
    clear hE hW
    have cc := HE2.out.cfg HC.out (4 + k) (4 + k + 116) 3 3 3 (List.replicate (4 + k) 0) [(4 + (k : Int) - 1, 0, 100)] (4 + k) (by simp [eI]) (by simp) (by omega) (fun j _ => rfl) 1 1 rfl (by omega) (by omega)
    have r2 := HE2.out.box
    rw [run_cfgLoad W2 g _ r2 rfl]
    clear r2
    go_wp2_with fail
    have c2 := CfgIn.mk (nodes := 4 + k) (long := 4 + k + 116) (miss := 3) (good := 3) (fresh := 3) cc.op cc.os ⟨Nat.le_refl _, (fun h => by cases h), fun _ h => by cases h; exact ⟨g1, 1, rfl⟩⟩ cc.ot cc.rp cc.rs (reads_row HE2.out.boots 1 (3 + k) (List.replicate (3 + k) 0) (by simp [eI]) (by simp) (by omega)) cc.rt
    refine (HE2.out.wrong HS.out HB1.out c2 1 (pe4 k hk13)).mono ?_
    clear c2
    rintro e W3 ⟨rfl, hE⟩
    have HE3 := Lib.hid hE
    clear hE
    go_wp2_with fail
    refine (HE3.out.lives HS.out HB1.out).mono ?_
    rintro e W9 ⟨rfl, hb4⟩
    go_wp2
    go_ret
    exact ⟨rfl, hb4⟩
  · -- 5
    have vg_0 : W1.cell? ⟨g, 0, none⟩ = some (.int .i64 (4 + (k : Int))) := heap_cell HE1.out.box 0
    have zg_0 : W1.frozen? ⟨g, 0, none⟩ = false := heap_thawed HE1.out.box 0
    have vg_5 : W1.cell? ⟨g, 5, none⟩ = some (.slice (some ⟨g2, 0, none⟩) 1 1) := heap_cell HE1.out.box 5
    have zg_5 : W1.frozen? ⟨g, 5, none⟩ = false := heap_thawed HE1.out.box 5
    have vg2_0 : W1.cell? ⟨g2, 0, none⟩ = some (.int .i64 (4 + (k : Int) - 1)) := heap_cell HE1.out.stats 0
    have zg2_0 : W1.frozen? ⟨g2, 0, none⟩ = false := heap_thawed HE1.out.stats 0
    go_wp2_with fail
    obtain ⟨W2, hW2⟩ : ∃ W2, W2 = W1.setCell ⟨g2, 0, none⟩ (.int .i64 (4 + (k : Int))) := ⟨_, rfl⟩
    rw [← hW2]
    have hE2 : Edge w1 W2 g g1 g2 #[.int .i64 (4 + (k : Int)), .slice pa 2 2, .slice sa 3 3, .int .i64 (4 + (k : Int) + 116), .slice (some ⟨g1, 0, none⟩) (4 + k) (4 + k), .slice (some ⟨g2, 0, none⟩) 1 1, .int .i64 3, .int .i64 3, .int .i64 3] (Array.replicate (4 + k) (.int .i64 0)) #[.int .i64 (4 + (k : Int)), .int .u32 0, .int .i64 100] := by rw [hW2]; exact HE1.out.set2 0 _
    have HE2 := Lib.hid hE2
    have r2 := hE2.box
    clear hE2 hW2
    rw [run_cfgLoad W2 g _ r2 rfl]
    clear r2
    go_wp2_with fail
    have c2 := HE2.out.cfg HC.out (4 + k) (4 + k + 116) 3 3 3 (List.replicate (4 + k) 0) [(4 + (k : Int), 0, 100)] (4 + k) (by simp [eI]) (by simp) (by omega) (fun j _ => rfl) 1 1 rfl (by omega) (by omega)
    refine (HE2.out.wrong HS.out HB1.out c2 1 (pe5 k hk13)).mono ?_
    clear c2
    rintro e W3 ⟨rfl, hE3⟩
    have HE3 := Lib.hid hE3
    clear hE3
    go_wp2_with fail
    refine (HE3.out.lives HS.out HB1.out).mono ?_
    rintro e W4 ⟨rfl, hb4⟩
    go_wp2
    go_ret
    exact ⟨rfl, hb4⟩
  · -- 6
    have vg_0 : W1.cell? ⟨g, 0, none⟩ = some (.int .i64 (4 + (k : Int))) := heap_cell HE1.out.box 0
    have zg_0 : W1.frozen? ⟨g, 0, none⟩ = false := heap_thawed HE1.out.box 0
    have vg_5 : W1.cell? ⟨g, 5, none⟩ = some (.slice (some ⟨g2, 0, none⟩) 1 1) := heap_cell HE1.out.box 5
    have zg_5 : W1.frozen? ⟨g, 5, none⟩ = false := heap_thawed HE1.out.box 5
    have vg2_2 : W1.cell? ⟨g2, 2, none⟩ = some (.int .i64 100) := heap_cell HE1.out.stats 2
    have zg2_2 : W1.frozen? ⟨g2, 2, none⟩ = false := heap_thawed HE1.out.stats 2
    go_wp2_with fail
    obtain ⟨W2, hW2⟩ : ∃ W2, W2 = W1.setCell ⟨g2, 2, none⟩ (.int .i64 (101)) := ⟨_, rfl⟩
    rw [← hW2]
    have hE2 : Edge w1 W2 g g1 g2 #[.int .i64 (4 + (k : Int)), .slice pa 2 2, .slice sa 3 3, .int .i64 (4 + (k : Int) + 116), .slice (some ⟨g1, 0, none⟩) (4 + k) (4 + k), .slice (some ⟨g2, 0, none⟩) 1 1, .int .i64 3, .int .i64 3, .int .i64 3] (Array.replicate (4 + k) (.int .i64 0)) #[.int .i64 (4 + (k : Int) - 1), .int .u32 0, .int .i64 (101)] := by rw [hW2]; exact HE1.out.set2 2 _
    have HE2 := Lib.hid hE2
    have r2 := hE2.box
    clear hE2 hW2
    rw [run_cfgLoad W2 g _ r2 rfl]
    clear r2
    go_wp2_with fail
    have c2 := HE2.out.cfg HC.out (4 + k) (4 + k + 116) 3 3 3 (List.replicate (4 + k) 0) [(4 + (k : Int) - 1, 0, 101)] (4 + k) (by simp [eI]) (by simp) (by omega) (fun j _ => rfl) 1 1 rfl (by omega) (by omega)
    refine (HE2.out.wrong HS.out HB1.out c2 3 (pe6 k hk13)).mono ?_
    clear c2
    rintro e W3 ⟨rfl, hE3⟩
    have HE3 := Lib.hid hE3
    clear hE3
    go_wp2_with fail
    refine (HE3.out.lives HS.out HB1.out).mono ?_
    rintro e W4 ⟨rfl, hb4⟩
    go_wp2
    go_ret
    exact ⟨rfl, hb4⟩
  · -- 7
    have vg_0 : W1.cell? ⟨g, 0, none⟩ = some (.int .i64 (4 + (k : Int))) := heap_cell HE1.out.box 0
    have zg_0 : W1.frozen? ⟨g, 0, none⟩ = false := heap_thawed HE1.out.box 0
    have vg_5 : W1.cell? ⟨g, 5, none⟩ = some (.slice (some ⟨g2, 0, none⟩) 1 1) := heap_cell HE1.out.box 5
    have zg_5 : W1.frozen? ⟨g, 5, none⟩ = false := heap_thawed HE1.out.box 5
    have vg2_2 : W1.cell? ⟨g2, 2, none⟩ = some (.int .i64 100) := heap_cell HE1.out.stats 2
    have zg2_2 : W1.frozen? ⟨g2, 2, none⟩ = false := heap_thawed HE1.out.stats 2
    go_wp2_with fail
    obtain ⟨W2, hW2⟩ : ∃ W2, W2 = W1.setCell ⟨g2, 2, none⟩ (.int .i64 (0)) := ⟨_, rfl⟩
    rw [← hW2]
    have hE2 : Edge w1 W2 g g1 g2 #[.int .i64 (4 + (k : Int)), .slice pa 2 2, .slice sa 3 3, .int .i64 (4 + (k : Int) + 116), .slice (some ⟨g1, 0, none⟩) (4 + k) (4 + k), .slice (some ⟨g2, 0, none⟩) 1 1, .int .i64 3, .int .i64 3, .int .i64 3] (Array.replicate (4 + k) (.int .i64 0)) #[.int .i64 (4 + (k : Int) - 1), .int .u32 0, .int .i64 (0)] := by rw [hW2]; exact HE1.out.set2 2 _
    have HE2 := Lib.hid hE2
    have r2 := hE2.box
    clear hE2 hW2
    rw [run_cfgLoad W2 g _ r2 rfl]
    clear r2
    go_wp2_with fail
    have c2 := HE2.out.cfg HC.out (4 + k) (4 + k + 116) 3 3 3 (List.replicate (4 + k) 0) [(4 + (k : Int) - 1, 0, 0)] (4 + k) (by simp [eI]) (by simp) (by omega) (fun j _ => rfl) 1 1 rfl (by omega) (by omega)
    refine (HE2.out.wrong HS.out HB1.out c2 1 (pe7 k hk13)).mono ?_
    clear c2
    rintro e W3 ⟨rfl, hE3⟩
    have HE3 := Lib.hid hE3
    clear hE3
    go_wp2_with fail
    refine (HE3.out.lives HS.out HB1.out).mono ?_
    rintro e W4 ⟨rfl, hb4⟩
    go_wp2
    go_ret
    exact ⟨rfl, hb4⟩
  · -- 8
    have vg_6 : W1.cell? ⟨g, 6, none⟩ = some (.int .i64 3) := heap_cell HE1.out.box 6
    have zg_6 : W1.frozen? ⟨g, 6, none⟩ = false := heap_thawed HE1.out.box 6
    go_wp2_with fail
    obtain ⟨W2, hW2⟩ : ∃ W2, W2 = W1.setCell ⟨g, 6, none⟩ (.int .i64 0) := ⟨_, rfl⟩
    rw [← hW2]
    have hE2 : Edge w1 W2 g g1 g2 #[.int .i64 (4 + (k : Int)), .slice pa 2 2, .slice sa 3 3, .int .i64 (4 + (k : Int) + 116), .slice (some ⟨g1, 0, none⟩) (4 + k) (4 + k), .slice (some ⟨g2, 0, none⟩) 1 1, .int .i64 0, .int .i64 3, .int .i64 3] (Array.replicate (4 + k) (.int .i64 0)) #[.int .i64 (4 + (k : Int) - 1), .int .u32 0, .int .i64 100] := by rw [hW2]; exact HE1.out.set0 6 _
    have HE2 := Lib.hid hE2
    have r2 := hE2.box
    clear hE2 hW2
    rw [run_cfgLoad W2 g _ r2 rfl]
    clear r2
    go_wp2_with fail
    have c2 := HE2.out.cfg HC.out (4 + k) (4 + k + 116) 0 3 3 (List.replicate (4 + k) 0) [(4 + (k : Int) - 1, 0, 100)] (4 + k) (by simp [eI]) (by simp) (by omega) (fun j _ => rfl) 1 1 rfl (by omega) (by omega)
    refine (HE2.out.wrong HS.out HB1.out c2 1 (pe8 k hk13)).mono ?_
    clear c2
    rintro e W3 ⟨rfl, hE3⟩
    have HE3 := Lib.hid hE3
    clear hE3
    go_wp2_with fail
    refine (HE3.out.lives HS.out HB1.out).mono ?_
    rintro e W4 ⟨rfl, hb4⟩
    go_wp2
    go_ret
    exact ⟨rfl, hb4⟩
  · -- 9
    have vg_7 : W1.cell? ⟨g, 7, none⟩ = some (.int .i64 3) := heap_cell HE1.out.box 7
    have zg_7 : W1.frozen? ⟨g, 7, none⟩ = false := heap_thawed HE1.out.box 7
    go_wp2_with fail
    obtain ⟨W2, hW2⟩ : ∃ W2, W2 = W1.setCell ⟨g, 7, none⟩ (.int .i64 101) := ⟨_, rfl⟩
    rw [← hW2]
    have hE2 : Edge w1 W2 g g1 g2 #[.int .i64 (4 + (k : Int)), .slice pa 2 2, .slice sa 3 3, .int .i64 (4 + (k : Int) + 116), .slice (some ⟨g1, 0, none⟩) (4 + k) (4 + k), .slice (some ⟨g2, 0, none⟩) 1 1, .int .i64 3, .int .i64 101, .int .i64 3] (Array.replicate (4 + k) (.int .i64 0)) #[.int .i64 (4 + (k : Int) - 1), .int .u32 0, .int .i64 100] := by rw [hW2]; exact HE1.out.set0 7 _
    have HE2 := Lib.hid hE2
    have r2 := hE2.box
    clear hE2 hW2
    rw [run_cfgLoad W2 g _ r2 rfl]
    clear r2
    go_wp2_with fail
    have c2 := HE2.out.cfg HC.out (4 + k) (4 + k + 116) 3 101 3 (List.replicate (4 + k) 0) [(4 + (k : Int) - 1, 0, 100)] (4 + k) (by simp [eI]) (by simp) (by omega) (fun j _ => rfl) 1 1 rfl (by omega) (by omega)
    refine (HE2.out.wrong HS.out HB1.out c2 3 (pe9 k hk13)).mono ?_
    clear c2
    rintro e W3 ⟨rfl, hE3⟩
    have HE3 := Lib.hid hE3
    clear hE3
    go_wp2_with fail
    refine (HE3.out.lives HS.out HB1.out).mono ?_
    rintro e W4 ⟨rfl, hb4⟩
    go_wp2
    go_ret
    exact ⟨rfl, hb4⟩
  · -- 10
    have vg_8 : W1.cell? ⟨g, 8, none⟩ = some (.int .i64 3) := heap_cell HE1.out.box 8
    have zg_8 : W1.frozen? ⟨g, 8, none⟩ = false := heap_thawed HE1.out.box 8
    go_wp2_with fail
    obtain ⟨W2, hW2⟩ : ∃ W2, W2 = W1.setCell ⟨g, 8, none⟩ (.int .i64 0) := ⟨_, rfl⟩
    rw [← hW2]
    have hE2 : Edge w1 W2 g g1 g2 #[.int .i64 (4 + (k : Int)), .slice pa 2 2, .slice sa 3 3, .int .i64 (4 + (k : Int) + 116), .slice (some ⟨g1, 0, none⟩) (4 + k) (4 + k), .slice (some ⟨g2, 0, none⟩) 1 1, .int .i64 3, .int .i64 3, .int .i64 0] (Array.replicate (4 + k) (.int .i64 0)) #[.int .i64 (4 + (k : Int) - 1), .int .u32 0, .int .i64 100] := by rw [hW2]; exact HE1.out.set0 8 _
    have HE2 := Lib.hid hE2
    have r2 := hE2.box
    clear hE2 hW2
    rw [run_cfgLoad W2 g _ r2 rfl]
    clear r2
    go_wp2_with fail
    have c2 := HE2.out.cfg HC.out (4 + k) (4 + k + 116) 3 3 0 (List.replicate (4 + k) 0) [(4 + (k : Int) - 1, 0, 100)] (4 + k) (by simp [eI]) (by simp) (by omega) (fun j _ => rfl) 1 1 rfl (by omega) (by omega)
    refine (HE2.out.wrong HS.out HB1.out c2 1 (pe10 k hk13)).mono ?_
    clear c2
    rintro e W3 ⟨rfl, hE3⟩
    have HE3 := Lib.hid hE3
    clear hE3
    go_wp2_with fail
    refine (HE3.out.lives HS.out HB1.out).mono ?_
    rintro e W4 ⟨rfl, hb4⟩
    go_wp2
    go_ret
    exact ⟨rfl, hb4⟩
  · -- 11
    have hEA := HE1.out.later ((Below.refl W1.heap.size W1).alloc (Nat.le_refl _) (.cells #[.int .i64 0, .int .i64 0, .int .i64 0] 3))
    have hlt : g ≠ W1.heap.size := Nat.ne_of_lt (Array.getElem?_eq_some_iff.1 HE1.out.box).1
    have HR := Lib.hid (show ((W1.alloc (.cells #[.int .i64 0, .int .i64 0, .int .i64 0] 3)).setCell ⟨g, 2, none⟩ (.slice (some ⟨W1.heap.size, 0, none⟩) 3 3)).heap[W1.heap.size]? = some (.cells #[.int .i64 0, .int .i64 0, .int .i64 0] 3 (0, 0)) from (heap_set_else hlt _ _).trans (heap_new _ _ _ rfl))
    have HNE := Lib.hid hlt
    clear hlt
    have HEA := Lib.hid hEA
    have v0 : (W1.alloc (.cells #[.int .i64 0, .int .i64 0, .int .i64 0] 3)).cell? ⟨g, 2, none⟩ = some (.slice sa 3 3) := heap_cell hEA.box 2
    have z0 : (W1.alloc (.cells #[.int .i64 0, .int .i64 0, .int .i64 0] 3)).frozen? ⟨g, 2, none⟩ = false := heap_thawed hEA.box 2
    clear hEA
    go_wp2_with fail
    obtain ⟨W2, hW⟩ : ∃ W2, W2 = (W1.alloc (.cells #[.int .i64 0, .int .i64 0, .int .i64 0] 3)).setCell ⟨g, 2, none⟩ (.slice (some ⟨W1.heap.size, 0, none⟩) 3 3) := ⟨_, rfl⟩
    rw [← hW]
    have hE : Edge w1 W2 g g1 g2 #[.int .i64 (4 + (k : Int)), .slice pa 2 2, .slice (some ⟨W1.heap.size, 0, none⟩) 3 3, .int .i64 (4 + (k : Int) + 116), .slice (some ⟨g1, 0, none⟩) (4 + k) (4 + k), .slice (some ⟨g2, 0, none⟩) 1 1, .int .i64 3, .int .i64 3, .int .i64 3] (Array.replicate (4 + k) (.int .i64 0)) #[.int .i64 (4 + (k : Int) - 1), .int .u32 0, .int .i64 100] := by rw [hW]; exact HEA.out.set0 2 _
    have HE2 := Lib.hid hE
    rw [← hW] at HR
    clear hE hW v0 z0
    have cc := HE2.out.cfg HC.out (4 + k) (4 + k + 116) 3 3 3 (List.replicate (4 + k) 0) [(4 + (k : Int) - 1, 0, 100)] (4 + k) (by simp [eI]) (by simp) (by omega) (fun j _ => rfl) 1 1 rfl (by omega) (by omega)
    have r2 := HE2.out.box
    rw [run_cfgLoad W2 g _ r2 rfl]
    clear r2
    go_wp2_with fail
    have c2 := CfgIn.mk (nodes := 4 + k) (long := 4 + k + 116) (miss := 3) (good := 3) (fresh := 3) cc.op ⟨Nat.le_refl _, (fun h => by cases h), fun _ h => by cases h; exact ⟨W1.heap.size, 0, rfl⟩⟩ cc.ob cc.ot cc.rp (reads_row HR.out 0 3 [0, 0, 0] (rfl) (by simp) (by omega)) cc.rb cc.rt
    refine (HE2.out.wrong HS.out HB1.out c2 1 (pe11 k hk13)).mono ?_
    clear c2
    rintro e W3 ⟨rfl, hE⟩
    have HE3 := Lib.hid hE
    clear hE
    go_wp2_with fail
    refine (HE3.out.lives HS.out HB1.out).mono ?_
    rintro e W9 ⟨rfl, hb4⟩
    go_wp2
    go_ret
    exact ⟨rfl, hb4⟩
  · -- 12
    obtain ⟨row, hrow⟩ : ∃ row : Array Value, row = (List.replicate 17 (Value.int .i64 0)).toArray := ⟨_, rfl⟩
    have hmk : ∀ w : World, (Instr.makeSlice 22 (.int .i64 17) (.int .i64 17)).run Tryd.prog w = .ok (.slice (some ⟨w.heap.size, 0, none⟩) 17 17) (w.alloc (.cells row 3)) := fun w => by
      rw [hrow]
      exact make_row (.int .i64 0) 8 Tryd.underlying22 info_intE rfl (by omega) 17 (by omega) w
    have HRW := Lib.hid hrow
    clear hrow
    have hEA := HE1.out.later ((Below.refl W1.heap.size W1).alloc (Nat.le_refl _) (.cells row 3))
    have hlt : g ≠ W1.heap.size := Nat.ne_of_lt (Array.getElem?_eq_some_iff.1 HE1.out.box).1
    have HR := Lib.hid (show ((W1.alloc (.cells row 3)).setCell ⟨g, 2, none⟩ (.slice (some ⟨W1.heap.size, 0, none⟩) 17 17)).heap[W1.heap.size]? = some (.cells row 3 (0, 0)) from (heap_set_else hlt _ _).trans (heap_new _ _ _ rfl))
    have HNE := Lib.hid hlt
    clear hlt
    have HEA := Lib.hid hEA
    have v0 : (W1.alloc (.cells row 3)).cell? ⟨g, 2, none⟩ = some (.slice sa 3 3) := heap_cell hEA.box 2
    have z0 : (W1.alloc (.cells row 3)).frozen? ⟨g, 2, none⟩ = false := heap_thawed hEA.box 2
    clear hEA
    go_wp2_with fail
    obtain ⟨W2, hW⟩ : ∃ W2, W2 = (W1.alloc (.cells row 3)).setCell ⟨g, 2, none⟩ (.slice (some ⟨W1.heap.size, 0, none⟩) 17 17) := ⟨_, rfl⟩
    rw [← hW]
    have hE : Edge w1 W2 g g1 g2 #[.int .i64 (4 + (k : Int)), .slice pa 2 2, .slice (some ⟨W1.heap.size, 0, none⟩) 17 17, .int .i64 (4 + (k : Int) + 116), .slice (some ⟨g1, 0, none⟩) (4 + k) (4 + k), .slice (some ⟨g2, 0, none⟩) 1 1, .int .i64 3, .int .i64 3, .int .i64 3] (Array.replicate (4 + k) (.int .i64 0)) #[.int .i64 (4 + (k : Int) - 1), .int .u32 0, .int .i64 100] := by rw [hW]; exact HEA.out.set0 2 _
    have HE2 := Lib.hid hE
    rw [← hW] at HR
    clear hE hW v0 z0
    have cc := HE2.out.cfg HC.out (4 + k) (4 + k + 116) 3 3 3 (List.replicate (4 + k) 0) [(4 + (k : Int) - 1, 0, 100)] (4 + k) (by simp [eI]) (by simp) (by omega) (fun j _ => rfl) 1 1 rfl (by omega) (by omega)
    have r2 := HE2.out.box
    rw [run_cfgLoad W2 g _ r2 rfl]
    clear r2
    go_wp2_with fail
    have c2 := CfgIn.mk (nodes := 4 + k) (long := 4 + k + 116) (miss := 3) (good := 3) (fresh := 3) cc.op ⟨Nat.le_refl _, (fun h => by cases h), fun _ h => by cases h; exact ⟨W1.heap.size, 0, rfl⟩⟩ cc.ob cc.ot cc.rp (reads_row HR.out 0 17 (List.replicate 17 0) (by rw [HRW.out]; simp [eI]) (by simp) (by omega)) cc.rb cc.rt
    refine (HE2.out.wrong HS.out HB1.out c2 3 (pe12 k hk13)).mono ?_
    clear c2
    rintro e W3 ⟨rfl, hE⟩
    have HE3 := Lib.hid hE
    clear hE
    go_wp2_with fail
    refine (HE3.out.lives HS.out HB1.out).mono ?_
    rintro e W9 ⟨rfl, hb4⟩
    go_wp2
    go_ret
    exact ⟨rfl, hb4⟩
  · -- 13
    obtain ⟨i0, hi, hz0, hz1, hz2⟩ := info_parts Tryd.infoSt
    have hS : Stats w1 W1 g g1 (boxC k pa sa g1) (Array.replicate (4 + k) (.int .i64 0)) (4 + (k : Int) - 1, 0, 100) 1 g2 1 #[.int .i64 (4 + (k : Int) - 1), .int .u32 0, .int .i64 100] := ⟨HE1.out, Nat.le_refl _, by omega, Nat.le_refl _, by unfold maxLen; omega, rfl, rfl⟩
    have HS1 := Lib.hid hS
    clear hS HE1
    go_wp2_with fail
    go_loopw [] (fun wr => ∃ (j gs cap : Nat) (cur : Array Value), Hid (Stats w1 wr g g1 (boxC k pa sa g1) (Array.replicate (4 + k) (.int .i64 0)) (4 + (k : Int) - 1, 0, 100) j gs cap cur)) (fun wr => 9 - lenAt wr ⟨g, 5, none⟩)
    case atStart => exact ⟨1, g2, 1, _, HS1⟩
    case round =>
      obtain ⟨j, gs, cap, cur, HR⟩ := hrel
      clear hw'
      have v0 : wr.cell? ⟨g, 5, none⟩ = some (.slice (some ⟨gs, 0, none⟩) j cap) := heap_cell HR.out.edge.box 5
      have j9 := HR.out.j9
      have j1 := HR.out.j1
      by_cases hj : j ≤ 8
      · have r2 : wr.heap[g]? = some (.cells #[.int .i64 (4 + (k : Int)), .slice pa 2 2, .slice sa 3 3, .int .i64 (4 + (k : Int) + 116), .slice (some ⟨g1, 0, none⟩) (4 + k) (4 + k), .slice (some ⟨gs, 0, none⟩) j cap, .int .i64 3, .int .i64 3, .int .i64 3] 25 (0, 0)) := HR.out.edge.box
        have c2 := HR.out.edge.cfg HC.out (4 + k) (4 + k + 116) 3 3 3 (List.replicate (4 + k) 0) (List.replicate j (4 + (k : Int) - 1, 0, 100)) (4 + k) (by simp [eI]) (by simp) (by omega) HR.out.get j cap (by simp) HR.out.jc (by omega)
        have hwr := HR.out.edge.wrong HS.out HB1.out c2 0 (pe13a k hk13 j (by omega) j1)
        have HW := Lib.hid hwr
        have jp : 0 < j := j1
        have jp2 : ¬ j = 0 := by omega
        clear c2 hwr
        go_wp2_with fail
        clear r2
        refine HW.out.mono ?_
        rintro e W2 ⟨rfl, hE2⟩
        have hs2 : Stats w1 W2 g g1 (boxC k pa sa g1) (Array.replicate (4 + k) (.int .i64 0)) (4 + (k : Int) - 1, 0, 100) j gs cap cur := ⟨hE2, j1, j9, HR.out.jc, HR.out.cm, HR.out.size, HR.out.take⟩
        have HS2 := Lib.hid hs2
        have m5 : W2.cell? ⟨g, 5, none⟩ = some (.slice (some ⟨gs, 0, none⟩) j cap) := heap_cell hE2.box 5
        have m0 : W2.cell? ⟨gs, 0, none⟩ = some (.int .i64 (4 + (k : Int) - 1)) := hs2.cell 0 (by omega)
        have m1 : W2.cell? ⟨gs, 1, none⟩ = some (.int .u32 0) := hs2.cell 1 (by omega)
        have m2 : W2.cell? ⟨gs, 2, none⟩ = some (.int .i64 100) := hs2.cell 2 (by omega)
        have hl : lenAt wr ⟨g, 5, none⟩ = j := by unfold lenAt; rw [v0]
        have HL := Lib.hid hl
        clear hE2 hs2 HW hl v0
        have m5a : (W2.alloc (.cells #[.int .i64 (4 + (k : Int) - 1), .int .u32 0, .int .i64 100] 53)).cell? ⟨g, 5, none⟩ = some (.slice (some ⟨gs, 0, none⟩) j cap) := heap_cell ((heap_alloc_old _ _ (Array.getElem?_eq_some_iff.1 HS2.out.edge.box).1).trans HS2.out.edge.box) 5
        have KEY : ∀ q : Nat, Hid ((((W2.drewN q).alloc (.cells #[.int .i64 (4 + (k : Int) - 1), .int .u32 0, .int .i64 100] 53)).ownsRow (g1 + 1) 53 3 (.slice (some ⟨gs, 0, none⟩) j cap) j ((List.replicate j (4 + (k : Int) - 1, 0, 100)).flatMap eSt))) := fun q => Lib.hid ((own_drewN HS2.out.own q).alloc _)
        go_wp2_with fail
        go_region_law (refine step_append_lies _ rfl _ _ 23 rfl (g1 + 1) 53 i0 (.agg #[.int .i64 0, .int .u32 0, .int .i64 0]) 3 24 Tryd.underlying23 hi hz0 hz1 hz2 rfl (by decide) _ _ _ rfl (KEY _).out ⟨W2.heap.size, 0, none⟩ 1 1 (eSt (4 + (k : Int) - 1, 0, 100)) rfl rfl (new_cells _ _ _ _ (by simp) _ rfl) (by intro u hu; simp [eSt] at hu; rcases hu with rfl | rfl | rfl <;> rfl) (by omega) (by unfold maxLen; omega) (by omega) (HS2.out.base _ _) _ rfl ?_; intro gs' cap' V hown' hgrow hat hlt; have n5 := (HS2.out.after _ _ hgrow).1; have f5 := (HS2.out.after _ _ hgrow).2; have HN := Lib.hid (HS2.out.step hj ((below_drewN (Below.refl W2.heap.size W2) _).alloc (by simp) _) hown' hgrow (fun gs' cap' => rfl)); clear hown' hgrow hat hlt)
        all_goals
          refine ⟨⟨_, _, _, _, _, _, _, _, _, _, _, _, _, _, _, _, _, ?rel, rfl⟩, ?measure⟩
          case rel => obtain ⟨_, _, _, _, hS⟩ := HN.out; exact ⟨_, _, _, _, Lib.hid hS⟩
          case measure =>
            obtain ⟨_, _, _, he, hS⟩ := HN.out
            have e2 := heap_cell hS.edge.box 5
            have e3 : ∀ W : World, ∀ (x : Option Addr) (n c : Nat), W.cell? ⟨g, 5, none⟩ = some (.slice x n c) → lenAt W ⟨g, 5, none⟩ = n := fun W x n c h => by unfold lenAt; rw [h]
            have e4 := e3 _ _ _ _ e2
            rw [HL.out]
            omega
      · have hj9 : j = 9 := by omega
        subst hj9
        have r2 : wr.heap[g]? = some (.cells #[.int .i64 (4 + (k : Int)), .slice pa 2 2, .slice sa 3 3, .int .i64 (4 + (k : Int) + 116), .slice (some ⟨g1, 0, none⟩) (4 + k) (4 + k), .slice (some ⟨gs, 0, none⟩) 9 cap, .int .i64 3, .int .i64 3, .int .i64 3] 25 (0, 0)) := HR.out.edge.box
        have c2 := HR.out.edge.cfg HC.out (4 + k) (4 + k + 116) 3 3 3 (List.replicate (4 + k) 0) (List.replicate 9 (4 + (k : Int) - 1, 0, 100)) (4 + k) (by simp [eI]) (by simp) (by omega) HR.out.get 9 cap (by simp) HR.out.jc (by omega)
        have hwr := HR.out.edge.wrong HS.out HB1.out c2 3 (pe13b k hk13)
        have HW := Lib.hid hwr
        clear c2 hwr
        go_wp2_with fail
        clear r2
        refine HW.out.mono ?_
        rintro e W3 ⟨rfl, hE⟩
        have HE3 := Lib.hid hE
        clear hE
        go_wp2_with fail
        refine (HE3.out.lives HS.out HB1.out).mono ?_
        rintro e W9 ⟨rfl, hb4⟩
        go_wp2
        go_ret
        exact ⟨rfl, hb4⟩
end Go.Proofs.YtibncdkekceokaaDoor
