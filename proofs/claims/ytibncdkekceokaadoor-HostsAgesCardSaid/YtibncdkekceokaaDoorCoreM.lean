/- CoreM: joined of: Modes, OpenV, EdgesOf. -/
import Derived.Test.YtibncdkekceokaaDoorCoreC
import Derived.Laws.Rows
/- modes: in, Asks, Edge, Next. -/
namespace Go.Proofs.YtibncdkekceokaaDoor
open Go.RowKit

/-- A block read whole, as the walk meets it. -/
theorem load_block {P : Program} (w : World) (g : Nat) (ty t : TypeId) (cs : Array Value) (fr : Nat × Nat) (d : TypeDesc) (hu : P.underlying ty = some d) (hd : (match d with | .struct _ | .array _ _ => true | _ => false) = true) (hi : (P.info? ty).map (·.size) = some cs.size)
    (hg : w.heap[g]? = some (.cells cs t fr)) : (Instr.loadAt ty (.pointer (some ⟨g, 0, none⟩))).run P w = .ok (.agg cs) w := by
  simp only [Instr.loadAt, Instr.sureAddr, Sem.run_bind, Sem.run_pure, Result.andThen]
  exact run_loadVar_row w g t ty cs fr d hg hu hd hi
theorem load_cells {P : Program} (w : World) (g n : Nat) (t : TypeId) (cs : Array Value) (fr : Nat × Nat) (hn : cs.size = n) (hg : w.heap[g]? = some (.cells cs t fr)) :
    (loadCellsFrom ⟨g, 0, none⟩ 0 n #[]).run P w = .ok cs w := by
  subst hn
  have := run_loadCells_list (P := P) w ⟨g, 0, none⟩ cs.toList (fun j v hv => by
    have hadd : (⟨g, 0, none⟩ : Addr).add j = ⟨g, j, none⟩ := by unfold Addr.add; split <;> simp_all
    rw [hadd, cell_of_row w g j cs t fr hg]
    simpa using hv)
  simpa [loadCells] using this

/-- A view's cells: which pairs are in, who commands, the mode. -/
structure ViewIs (vs : Array Value) (ins : Nat → Bool) (cmd md : Int) : Prop where
  size : vs.size = 42
  insc : ∀ k, k < 8 → vs[k]? = some (.bool (ins k))
  cmdc : vs[40]? = some (.int .i8 cmd)
  mdc : vs[41]? = some (.int .u8 md)
  lo : 0 ≤ md
  hi : md ≤ 255
  one : ∀ (i : Nat) (v : Value), vs[i]? = some v → v.oneCell' = true
theorem ViewIs.all {vs : Array Value} {ins : Nat → Bool} {cmd md : Int} (h : ViewIs vs ins cmd md) : vs.all (·.oneCell') = true := by
  rw [Array.all_eq_true_iff_forall_mem]
  intro v hv
  obtain ⟨i, hi⟩ := Array.mem_iff_getElem?.1 hv
  exact h.one i v hi

/-- How many pairs are there, of the first so many; how many of them are in. -/
def allN (f : Nat → Int) : Nat → Nat
  | 0 => 0
  | k + 1 => allN f k + if f k < 0 then 0 else 1
def inN (f : Nat → Int) (ins : Nat → Bool) : Nat → Nat
  | 0 => 0
  | k + 1 => inN f ins k + if f k < 0 then 0 else if ins k then 1 else 0
theorem allN_le (f : Nat → Int) (k : Nat) : allN f k ≤ k := by
  induction k with
  | zero => exact Nat.le_refl _
  | succ k ih => simp only [allN]; split <;> omega
theorem inN_le (f : Nat → Int) (ins : Nat → Bool) (k : Nat) : inN f ins k ≤ allN f k := by
  induction k with
  | zero => exact Nat.le_refl _
  | succ k ih => simp only [allN, inN]; split <;> (try split) <;> omega

set_option maxRecDepth 100000 in
set_option maxHeartbeats 1000000 in
theorem in_any (p : Option Addr) (c : Cfg) (qs : List Int) (vs : Array Value) (ins : Nat → Bool) (cmd md : Int) (w : World) (h : NetP w p c qs) (hv : ViewIs vs ins cmd md) :
    Calls Tryd.prog 74 #[.pointer p, .agg vs] w fun e w' => e = .returned (.tuple #[.int .i64 (inN (fun k : Nat => fromL qs c.ps (k : Int)) ins 8), .int .i64 (allN (fun k : Nat => fromL qs c.ps (k : Int)) 8)]) ∧ Below w.heap.size w w' := by
  have hb := (Below.refl w.heap.size w).alloc (Nat.le_refl _) (.cells vs 32)
  have hc : ∀ k, k < 8 → (w.alloc (.cells vs 32)).cell? ⟨w.heap.size, k, none⟩ = some (.bool (ins k)) := fun k hk => (heap_cell (heap_new w _ _ rfl) k).trans (hv.insc k hk)
  have hP := h.below hb
  obtain ⟨f, hf⟩ : ∃ f : Nat → Int, f = fun k : Nat => fromL qs c.ps (k : Int) := ⟨_, rfl⟩
  have hF : ∀ k : Nat, f k = fromL qs c.ps (k : Int) := fun k => by rw [hf]
  rw [← hf]
  clear hf
  have HB := Lib.hid hb
  have HC := Lib.hid hc
  clear hb hc
  go_enter Tryd.func74, Tryd.ntmps74
  go_wp2
  go_loopw [4, 5, 6, 7] (fun is all _ i wr => ∃ k : Nat, k ≤ 8 ∧ i = .int .i64 k ∧ is = .int .i64 (inN f ins k) ∧ all = .int .i64 (allN f k) ∧ wr = w.alloc (.cells vs 32)) (fun _ _ _ i _ => 8 - (intOf i).toNat)
  case atStart => exact ⟨0, by omega, rfl, rfl, rfl, rfl⟩
  case round =>
    obtain ⟨k, hk, rfl, rfl, rfl, rfl⟩ := hrel
    by_cases hlt : k < 8
    · have hv := HC.out k hlt
      have ha1 := allN_le f k
      have ha2 := inN_le f ins k
      have hn := netfirst_any p c qs k _ hP
      rw [← hF k] at hn
      have ha : allN f (k + 1) = allN f k + if f k < 0 then 0 else 1 := rfl
      have hi : inN f ins (k + 1) = inN f ins k + if f k < 0 then 0 else if ins k then 1 else 0 := rfl
      generalize hfk : f k = x at hn ha hi
      generalize hik : ins k = y at hv hi
      by_cases hx : x < 0
      · simp only [hx, if_true] at ha hi
        go_wp2_with (go_at_call 38; refine (hn).mono ?_; rintro e w' ⟨rfl, rfl⟩)
        go_roundw
        case rel => exact ⟨k + 1, by omega, by go_num, by rw [hi]; rfl, by rw [ha]; rfl, by trivial⟩
        case measure => simp [intOf]; omega
      · simp only [hx, if_false] at ha hi
        cases y
        · simp only [Bool.false_eq_true, if_false] at hi
          go_wp2_with (go_at_call 38; refine (hn).mono ?_; rintro e w' ⟨rfl, rfl⟩)
          go_roundw
          case rel => exact ⟨k + 1, by omega, by go_num, by rw [hi]; rfl, by rw [ha]; go_num, by trivial⟩
          case measure => simp [intOf]; omega
        · simp only [if_true] at hi
          go_wp2_with (go_at_call 38; refine (hn).mono ?_; rintro e w' ⟨rfl, rfl⟩)
          go_roundw
          case rel => exact ⟨k + 1, by omega, by go_num, by rw [hi]; go_num, by rw [ha]; go_num, by trivial⟩
          case measure => simp [intOf]; omega
    · have e : k = 8 := by omega
      subst e
      go_wp2
      go_ret2
      exact ⟨rfl, HB.out⟩

/-- What is asked for. -/
def asksF (f : Nat → Int) (ins : Nat → Bool) (cmd : Int) : Int := if cmd < 0 ∨ inN f ins 8 = 0 then 4 else if inN f ins 8 = allN f 8 then 1 else if inN f ins 8 = 1 then 3 else 2
theorem asksF_bounds (f : Nat → Int) (ins : Nat → Bool) (cmd : Int) : 1 ≤ asksF f ins cmd ∧ asksF f ins cmd ≤ 4 := by
  unfold asksF
  split
  · omega
  · split
    · omega
    · split <;> omega

set_option maxRecDepth 100000 in
set_option maxHeartbeats 1000000 in
theorem asks_any (p : Option Addr) (c : Cfg) (qs : List Int) (vs : Array Value) (ins : Nat → Bool) (cmd md : Int) (w : World) (h : NetP w p c qs) (hv : ViewIs vs ins cmd md) :
    Calls Tryd.prog 26 #[.pointer p, .agg vs] w fun e w' => e = .returned (.int .u8 (asksF (fun k : Nat => fromL qs c.ps (k : Int)) ins cmd)) ∧ Below w.heap.size w w' := by
  have hb := (Below.refl w.heap.size w).alloc (Nat.le_refl _) (.cells vs 32)
  have hsz : (Tryd.prog.info? 32).map (·.size) = some vs.size := by rw [hv.size]; kernel_rfl
  have hvb : (w.alloc (.cells vs 32)).heap[w.heap.size]? = some (.cells vs 32 (0, 0)) := heap_new _ _ _ rfl
  have hin := in_any p c qs vs ins cmd md _ (h.below hb) hv
  have h40 : (w.alloc (.cells vs 32)).cell? ⟨w.heap.size, 40, none⟩ = some (.int .i8 cmd) := (heap_cell (heap_new w _ _ rfl) 40).trans hv.cmdc
  have hi1 := inN_le (fun k : Nat => fromL qs c.ps (k : Int)) ins 8
  have hi2 := allN_le (fun k : Nat => fromL qs c.ps (k : Int)) 8
  have hd : asksF (fun k : Nat => fromL qs c.ps (k : Int)) ins cmd = if cmd < 0 ∨ inN (fun k : Nat => fromL qs c.ps (k : Int)) ins 8 = 0 then 4 else if inN (fun k : Nat => fromL qs c.ps (k : Int)) ins 8 = allN (fun k : Nat => fromL qs c.ps (k : Int)) 8 then 1 else if inN (fun k : Nat => fromL qs c.ps (k : Int)) ins 8 = 1 then 3 else 2 := rfl
  generalize asksF (fun k : Nat => fromL qs c.ps (k : Int)) ins cmd = r at hd ⊢
  generalize inN (fun k : Nat => fromL qs c.ps (k : Int)) ins 8 = m at hin hd hi1
  generalize allN (fun k : Nat => fromL qs c.ps (k : Int)) 8 = n at hin hd hi1 hi2
  have HB := Lib.hid hb
  have HD := Lib.hid hd
  clear hb hd
  go_enter Tryd.func26, Tryd.ntmps26
  go_wp2_with (first | (refine wpList_load_row rfl 32 _ rfl w.heap.size rfl 32 vs (0, 0) _ hvb Tryd.underlying32 rfl hsz ?_) | fail)
  refine hin.mono ?_
  rintro e w1 ⟨rfl, hb1⟩
  have c40 : w1.cell? ⟨w.heap.size, 40, none⟩ = some (.int .i8 cmd) := (hb1.cell (p := ⟨w.heap.size, 40, none⟩) (by simp)).trans h40
  have HB1 := Lib.hid (HB.out.trans (hb1.mono (by simp)))
  clear h40 hb1 hin hsz hvb
  by_cases h1 : cmd < 0
  · go_wp2
    go_ret
    exact ⟨by rw [HD.out]; simp [h1], HB1.out⟩
  · by_cases h2 : m = 0
    · subst h2
      go_wp2
      go_ret
      exact ⟨by rw [HD.out]; simp, HB1.out⟩
    · have b1 : ((m : Int) == 0) = false := by simp; omega
      by_cases h3 : m = n
      · subst h3
        go_wp2
        go_ret
        exact ⟨by rw [HD.out]; simp [h1, h2], HB1.out⟩
      · have b2 : ((m : Int) == n) = false := by simp; omega
        by_cases h4 : m = 1
        · subst h4
          go_wp2
          go_ret
          exact ⟨by rw [HD.out]; simp [h1, h3], HB1.out⟩
        · have b3 : ((m : Int) == 1) = false := by simp; omega
          go_wp2
          go_ret
          exact ⟨by rw [HD.out]; simp [h1, h2, h3, h4], HB1.out⟩

/-- The edges' table. -/
def edgeT (a b : Nat) : Bool := decide (a = 0 ∨ a ≤ b ∨ (b + 1 = a ∧ b ≠ 0))
structure Edges (w : World) : Prop where
  at_ : ∀ a b, a < 5 → b < 5 → w.cell? ⟨0, a * 5 + b, none⟩ = some (.bool (edgeT a b))
  lt : 0 < w.heap.size
theorem Edges.below {w w' : World} (h : Edges w) (hb : Below w.heap.size w w') : Edges w' :=
  ⟨fun a b ha hb' => (hb.cell (p := ⟨0, a * 5 + b, none⟩) h.lt).trans (h.at_ a b ha hb'), Nat.lt_of_lt_of_le h.lt hb.size⟩
def edgeB (a b : Nat) : Bool := decide (b < 5) && edgeT (if 5 ≤ a then 0 else a) b

set_option maxRecDepth 100000 in
set_option maxHeartbeats 1000000 in
theorem edge_any (a b : Nat) (w : World) (h : Edges w) :
    Calls Tryd.prog 24 #[.int .u8 a, .int .u8 b] w fun e w' => e = .returned (.bool (edgeB a b)) ∧ w = w' := by
  by_cases hb : b < 5
  · by_cases ha : 5 ≤ a
    · have hc := h.at_ 0 b (by omega) hb
      have he : edgeB a b = edgeT 0 b := by simp [edgeB, ha, hb]
      rw [he]
      rw [show 0 * 5 + b = b by omega] at hc
      generalize edgeT 0 b = x at hc
      clear he
      go_enter Tryd.func24, Tryd.ntmps24
      go_wp2
      go_ret
      exact ⟨rfl, rfl⟩
    · have hc := h.at_ a b (by omega) hb
      have he : edgeB a b = edgeT a b := by simp [edgeB, ha, hb]
      rw [he]
      generalize edgeT a b = x at hc
      clear he
      go_enter Tryd.func24, Tryd.ntmps24
      go_wp2
      go_ret
      exact ⟨rfl, rfl⟩
  · have he : edgeB a b = false := by simp [edgeB, hb]
    rw [he]
    by_cases ha : 5 ≤ a
    · go_enter Tryd.func24, Tryd.ntmps24
      go_wp2
      go_ret
      exact ⟨rfl, rfl⟩
    · go_enter Tryd.func24, Tryd.ntmps24
      go_wp2
      go_ret
      exact ⟨rfl, rfl⟩

/-- The next mode. -/
def nextF (r md : Nat) : Nat := if edgeB md r then r else md - 1
set_option maxRecDepth 100000 in
set_option maxHeartbeats 1000000 in
theorem next_any (p : Option Addr) (c : Cfg) (qs : List Int) (vs : Array Value) (ins : Nat → Bool) (cmd : Int) (md r : Nat) (w : World) (h : NetP w p c qs) (hv : ViewIs vs ins cmd md) (hE : Edges w) (hr : asksF (fun k : Nat => fromL qs c.ps (k : Int)) ins cmd = r) :
    Calls Tryd.prog 27 #[.pointer p, .agg vs] w fun e w' => e = .returned (.int .u8 (nextF r md : Nat)) ∧ Below w.heap.size w w' := by
  have hb := (Below.refl w.heap.size w).alloc (Nat.le_refl _) (.cells vs 32)
  have hsz : (Tryd.prog.info? 32).map (·.size) = some vs.size := by rw [hv.size]; kernel_rfl
  have hvb : (w.alloc (.cells vs 32)).heap[w.heap.size]? = some (.cells vs 32 (0, 0)) := heap_new _ _ _ rfl
  have has := asks_any p c qs vs ins cmd md _ (h.below hb) hv
  rw [hr] at has
  have h41 : (w.alloc (.cells vs 32)).cell? ⟨w.heap.size, 41, none⟩ = some (.int .u8 md) := (heap_cell (heap_new w _ _ rfl) 41).trans hv.mdc
  have hmd : md ≤ 255 := by have := hv.hi; omega
  have hr1 := asksF_bounds (fun k : Nat => fromL qs c.ps (k : Int)) ins cmd
  rw [hr] at hr1
  have HE := Lib.hid (hE.below hb)
  have HB := Lib.hid hb
  clear hb hE
  go_enter Tryd.func27, Tryd.ntmps27
  go_wp2_with (first | (refine wpList_load_row rfl 32 _ rfl w.heap.size rfl 32 vs (0, 0) _ hvb Tryd.underlying32 rfl hsz ?_) | fail)
  refine has.mono ?_
  rintro e w1 ⟨rfl, hb1⟩
  have c41 : w1.cell? ⟨w.heap.size, 41, none⟩ = some (.int .u8 md) := (hb1.cell (p := ⟨w.heap.size, 41, none⟩) (by simp)).trans h41
  have HB1 := Lib.hid (HB.out.trans (hb1.mono (by simp)))
  have HE1 := Lib.hid (HE.out.below hb1)
  clear h41 hb1 has hsz hvb
  have hed := edge_any md r w1 HE1.out
  by_cases he : edgeB md r = true
  · have hn : nextF r md = r := if_pos he
    rw [he] at hed
    go_wp2_with (go_at_call 24; refine (hed).mono ?_; rintro e w' ⟨rfl, rfl⟩)
    go_ret
    exact ⟨ret_int (by rw [hn]), HB1.out⟩
  · have hm1 : 1 ≤ md := by
      by_cases h0 : md = 0
      · subst h0
        exact absurd (by simp [edgeB, edgeT]; omega) he
      · omega
    have hn : nextF r md = md - 1 := if_neg he
    rw [Bool.not_eq_true] at he
    rw [he] at hed
    go_wp2_with (go_at_call 24; refine (hed).mono ?_; rintro e w' ⟨rfl, rfl⟩)
    go_ret
    exact ⟨ret_int (by rw [hn]; go_num), HB1.out⟩
end Go.Proofs.YtibncdkekceokaaDoor

/- A view's argument opened. -/
namespace Go.Proofs.YtibncdkekceokaaDoor
open Go.ChangeShapes Go.WideShapes Go.ChangeAt Go.WideMaps Go.WideElems Go.RowKit Go.Deep

/-- The types of a view's cells. -/
def viewT : List TypeId := [4, 4, 4, 4, 4, 4, 4, 4, 5, 5, 5, 5, 5, 5, 5, 5, 5, 5, 5, 5, 5, 5, 5, 5,
  28, 28, 28, 28, 28, 28, 28, 28, 4, 4, 4, 4, 4, 4, 4, 4, 30, 5]
theorem view_types : Tryd.prog.cellTypes Tryd.prog.depth 32 = some viewT := by kernel_rfl
theorem cells_view : Tryd.prog.cellsOf 32 = 42 := by kernel_rfl
theorem viewT_in : ∀ u ∈ viewT, u = 4 ∨ u = 5 ∨ u = 28 ∨ u = 30 := by decide +kernel
theorem viewT_bool : ∀ k, k < 8 → viewT[k]? = some 4 := by
  intro k hk
  rcases k with _ | _ | _ | _ | _ | _ | _ | _ | k
  all_goals first | rfl | omega
theorem cell_bool {P : Program} {w : World} {r : Reach} {base : Nat} {t : TypeId} {v : Value} (hu : P.underlying t = some .bool) (h : Cell.okWide P w r base t v) : ∃ b, v = .bool b := by
  simp only [Cell.okWide, hu] at h
  unfold Cell.ok at h
  rw [hu] at h
  cases v <;> simp_all
theorem cell_int {P : Program} {w : World} {r : Reach} {base : Nat} {t : TypeId} {k : IntKind} {v : Value} (hu : P.underlying t = some (.int k)) (h : Cell.okWide P w r base t v) : ∃ n, v = .int k n ∧ k.has n := by
  simp only [Cell.okWide, hu] at h
  unfold Cell.ok at h
  rw [hu] at h
  cases v <;> simp_all
set_option maxRecDepth 10000 in
theorem open_view {w : World} {base : Nat} {v : Value} (hval : Value.okWide Tryd.prog w .any base 32 v) : ∃ (vs : Array Value) (ins : Nat → Bool) (cmd : Int) (md : Nat), v = .agg vs ∧ ViewIs vs ins cmd md := by
  simp only [Value.okWide, Tryd.underlying32] at hval
  obtain ⟨cs, rfl, hsz, ts, hts, _, hrow⟩ := hval
  rw [view_types] at hts
  obtain rfl := Option.some.inj hts
  rw [cells_view] at hsz
  have hl : viewT.length = 42 := rfl
  have hat : ∀ i (hi : i < 42), ∃ u, viewT[i]? = some u ∧ Cell.okWide Tryd.prog w .any base u (cs[i]'(by omega)) := fun i hi => by
    obtain ⟨u, h1, h2⟩ := hrow i _ (Array.getElem?_eq_getElem (by omega))
    rw [hl, Nat.mod_eq_of_lt hi] at h1
    exact ⟨u, h1, h2⟩
  obtain ⟨u40, e40, o40⟩ := hat 40 (by omega)
  obtain rfl : _ = u40 := Option.some.inj e40
  obtain ⟨cmd, hcmd, _⟩ := cell_int Tryd.underlying30 o40
  obtain ⟨u41, e41, o41⟩ := hat 41 (by omega)
  obtain rfl : _ = u41 := Option.some.inj e41
  obtain ⟨md, hmd, hm⟩ := cell_int Tryd.underlying5 o41
  have hm1 : 0 ≤ md := hm.1
  have hm2 : md ≤ 255 := hm.2
  refine ⟨cs, fun k => match cs[k]? with | some (.bool b) => b | _ => false, cmd, md.toNat, rfl, hsz, ?_, ?_, ?_, by omega, by omega, ?_⟩
  · intro k hk
    obtain ⟨u, h1, h2⟩ := hat k (by omega)
    rw [viewT_bool k hk] at h1
    obtain rfl := Option.some.inj h1
    obtain ⟨b, hb⟩ := cell_bool Tryd.underlying4 h2
    rw [Array.getElem?_eq_getElem (by omega), hb]
  · rw [Array.getElem?_eq_getElem (by omega), hcmd]
  · rw [Array.getElem?_eq_getElem (by omega), hmd, Int.toNat_of_nonneg hm1]
  · intro i v hv
    obtain ⟨hi, rfl⟩ := Array.getElem?_eq_some_iff.1 hv
    obtain ⟨u, h1, h2⟩ := hat i (by omega)
    rcases viewT_in u (List.mem_of_getElem? h1) with rfl | rfl | rfl | rfl
    · obtain ⟨b, hb⟩ := cell_bool Tryd.underlying4 h2
      rw [hb]; rfl
    · obtain ⟨b, hb, _⟩ := cell_int Tryd.underlying5 h2
      rw [hb]; rfl
    · obtain ⟨b, hb, _⟩ := cell_int Tryd.underlying28 h2
      rw [hb]; rfl
    · obtain ⟨b, hb, _⟩ := cell_int Tryd.underlying30 h2
      rw [hb]; rfl
end Go.Proofs.YtibncdkekceokaaDoor

/- The edges' table lies as it should. -/
namespace Go.Proofs.YtibncdkekceokaaDoor
open Go.ChangeShapes Go.WideShapes Go.ChangeAt Go.WideMaps Go.WideElems Go.RowKit

def edgesL : List (List Bool) := [[true, true, true, true, true], [false, true, true, true, true], [false, true, true, true, true], [false, false, true, true, true], [false, false, false, true, true]]
theorem edgesL_at : ∀ a b, a < 5 → b < 5 → ∃ r, edgesL[a]? = some r ∧ r[b]? = some (edgeT a b) := by
  intro a b ha hb
  have h1 : a = 0 ∨ a = 1 ∨ a = 2 ∨ a = 3 ∨ a = 4 := by omega
  have h2 : b = 0 ∨ b = 1 ∨ b = 2 ∨ b = 3 ∨ b = 4 := by omega
  rcases h1 with rfl | rfl | rfl | rfl | rfl <;> rcases h2 with rfl | rfl | rfl | rfl | rfl <;> exact ⟨_, rfl, by decide +kernel⟩
theorem gEdges : Tryd.prog.globalNamed "sennit/modes.edges" = some 0 := by kernel_rfl
theorem edges_of {l : List (String × DataW Unit)} {w : World} (h : laidMetH Tryd.prog l w) (hp : (l.all fun x => x.2.handleName?.isNone) = true) (hm : ("sennit/modes.edges", DataW.agg (edgesL.map fun r => DataW.agg (r.map fun z => DataW.lit (Lit.bool z)))) ∈ l) : Edges w := by
  rw [MakeChecks.laidMetH_plain _ _ _ hp] at h
  have key := laid_bools2 h hm gEdges (show (Tryd.prog.globals[0]?).map (·.type) = some 135 by kernel_rfl) Tryd.underlying135 Tryd.underlying134 Tryd.underlying4 (by kernel_rfl) (by kernel_rfl)
  have h0 : w.cell? ⟨0, 0, none⟩ = some (.bool true) := key 0 _ 0 _ rfl rfl (by omega)
  refine ⟨fun a b ha hb => ?_, World.block_lt_of_cell? w _ h0⟩
  obtain ⟨r, h1, h2⟩ := edgesL_at a b ha hb
  exact key a r b _ h1 h2 hb
end Go.Proofs.YtibncdkekceokaaDoor
