/- configs.own over a box that holds the config; the net that is laid of it. -/
import Derived.Test.YtibncdkekceokaaDoorOwn
import Derived.Test.YtibncdkekceokaaDoorCfg
import Derived.Test.YtibncdkekceokaaDoorHalves
namespace Go.Proofs.YtibncdkekceokaaDoor
open Go.RowKit

/-- A config's own lists, in blocks from lo on, below hi. -/
def OwnAt (w : World) (lo hi : Nat) (c : Cfg) (ap as_ ab at_ : Option Addr) : Prop :=
  hi ≤ w.heap.size ∧ OwnIn w lo hi 3 1 (.slice ap c.ps.length c.ps.length) c.ps.length (c.ps.map eI) ∧ OwnIn w lo hi 3 1 (.slice as_ c.ss.length c.ss.length) c.ss.length (c.ss.map eI) ∧
    OwnIn w lo hi 3 1 (.slice ab c.bs.length c.bs.length) c.bs.length (c.bs.map eI) ∧ OwnIn w lo hi 53 3 (.slice at_ c.ts.length c.ts.length) c.ts.length (c.ts.flatMap eSt)
theorem OwnIn.wide {w : World} {lo hi lo' hi' : Nat} {e : TypeId} {size : Nat} {v : Value} {n : Nat} {cs : List Value} (h : OwnIn w lo hi e size v n cs) (h1 : lo' ≤ lo) (h2 : hi ≤ hi') : OwnIn w lo' hi' e size v n cs :=
  ⟨h.1.mono h1, fun g hg => Nat.lt_of_lt_of_le (h.2 g hg) h2⟩
theorem OwnAt.in_block {w w' : World} {lo hi : Nat} {c : Cfg} {ap as_ ab at_ : Option Addr} (h : OwnAt w lo hi c ap as_ ab at_) (hk : ∀ g, lo ≤ g → g < hi → w'.heap[g]? = w.heap[g]?) (hs : w.heap.size ≤ w'.heap.size) : OwnAt w' lo hi c ap as_ ab at_ :=
  ⟨Nat.le_trans h.1 hs, h.2.1.in_block hk, h.2.2.1.in_block hk, h.2.2.2.1.in_block hk, h.2.2.2.2.in_block hk⟩
theorem OwnAt.below {w w' : World} {lo hi : Nat} {c : Cfg} {ap as_ ab at_ : Option Addr} (h : OwnAt w lo hi c ap as_ ab at_) (hb : Below w.heap.size w w') : OwnAt w' lo hi c ap as_ ab at_ :=
  h.in_block (fun g _ hg => hb.block g (Nat.lt_of_lt_of_le hg h.1)) hb.size

theorem own_box {nodes long miss good fresh : Int} {pa sa ba ta : Option Addr} {pn pc sn sc bn bc tn tc : Nat} {ps ss bs : List Int} {ts : List (Int × Int × Int)} {c : Cfg} (hc : c = ⟨nodes, long, miss, good, fresh, ps, ss, bs, ts⟩) {w : World} (C : CfgIn w nodes long miss good fresh pa sa ba ta pn pc sn sc bn bc tn tc ps ss bs ts) {W : World} {g : Nat} (hW : Below w.heap.size w W)
    (hB : W.heap[g]? = some (.cells #[.int .i64 nodes, .slice pa pn pc, .slice sa sn sc, .int .i64 long, .slice ba bn bc, .slice ta tn tc, .int .i64 miss, .int .i64 good, .int .i64 fresh] 25 (0, 0)))
    (lp : pn ≤ 1000000) (ls : sn ≤ 1000000) (lb : bn ≤ 1000000) (lt : tn ≤ 1000000) :
    Calls Tryd.prog 68 #[.agg #[.int .i64 nodes, .slice pa pn pc, .slice sa sn sc, .int .i64 long, .slice ba bn bc, .slice ta tn tc, .int .i64 miss, .int .i64 good, .int .i64 fresh]] W fun e w1 => ∃ ap as_ ab at_, e = .returned (.agg #[.int .i64 nodes, .slice ap pn pn, .slice as_ sn sn, .int .i64 long, .slice ab bn bn, .slice at_ tn tn, .int .i64 miss, .int .i64 good, .int .i64 fresh]) ∧
      w1.cell? ⟨g, 0, none⟩ = some (.int .i64 nodes) ∧ w1.cell? ⟨g, 1, none⟩ = some (.slice pa pn pc) ∧ w1.cell? ⟨g, 2, none⟩ = some (.slice sa sn sc) ∧ w1.cell? ⟨g, 3, none⟩ = some (.int .i64 long) ∧ w1.cell? ⟨g, 4, none⟩ = some (.slice ba bn bc) ∧ w1.cell? ⟨g, 5, none⟩ = some (.slice ta tn tc) ∧ w1.cell? ⟨g, 6, none⟩ = some (.int .i64 miss) ∧ w1.cell? ⟨g, 7, none⟩ = some (.int .i64 good) ∧ w1.cell? ⟨g, 8, none⟩ = some (.int .i64 fresh) ∧
      Hid (OwnAt w1 W.heap.size w1.heap.size c ap as_ ab at_ ∧ Below W.heap.size W w1) := by
  have CW := C.below hW
  subst hc
  refine (own_any nodes long miss good fresh pa sa ba ta pn pc sn sc bn bc tn tc ps ss bs ts W CW.op CW.os CW.ob CW.ot CW.rp CW.rs CW.rb CW.rt lp ls lb lt).mono ?_
  rintro e w1 ⟨pv, sv, bv, tv, m1, m2, m3, rfl, h1, h2, h3, h4, o1, o2, o3, o4, hb⟩
  obtain ⟨ap, rfl, _⟩ := h1.1.value
  obtain ⟨as_, rfl, _⟩ := h2.1.value
  obtain ⟨ab, rfl, _⟩ := h3.1.value
  obtain ⟨at_, rfl, _⟩ := h4.1.value
  have hlt : g < W.heap.size := (Array.getElem?_eq_some_iff.1 hB).1
  have hg := (hb.block g hlt).trans hB
  refine ⟨ap, as_, ab, at_, rfl, heap_cell hg 0, heap_cell hg 1, heap_cell hg 2, heap_cell hg 3, heap_cell hg 4, heap_cell hg 5, heap_cell hg 6, heap_cell hg 7, heap_cell hg 8, Lib.hid (And.intro ?_ ?_)⟩
  · have e1 := CW.rp.len
    have e2 := CW.rs.len
    have e3 := CW.rb.len
    have e4 := CW.rt.len
    subst e1 e2 e3 e4
    exact ⟨Nat.le_refl _, h1.wide (by omega) (by omega), h2.wide (by omega) (by omega), h3.wide (by omega) (by omega), h4.wide (by omega) (by omega)⟩
  · exact hb

/-- The net, in the end. -/
theorem net_made {w1 w : World} {lo lo' hi q b top : Nat} {c : Cfg} {ap as_ ab at_ : Option Addr} (h : OwnAt w1 lo hi c ap as_ ab at_) (hk : ∀ g, lo ≤ g → g < hi → w.heap[g]? = w1.heap[g]?) (hs : w1.heap.size ≤ w.heap.size) (n : Nat) (hn : c.nodes = n)
    (hq : w.heap[q]? = some (.cells (c.pairs.map eI).toArray 3 (0, 0))) (hb : w.heap[b]? = some (.cells #[.int .i64 c.nodes, .slice ap c.ps.length c.ps.length, .slice as_ c.ss.length c.ss.length, .int .i64 c.long, .slice ab c.bs.length c.bs.length, .slice at_ c.ts.length c.ts.length, .int .i64 c.miss, .int .i64 c.good, .int .i64 c.fresh, .slice (some ⟨q, 0, none⟩) n n] 56 (0, 0)))
    (g1 : lo' ≤ lo) (g2 : hi ≤ top) (g3 : lo' ≤ q) (g4 : q < top) (g5 : lo' ≤ b) (g6 : b < top) (g7 : top ≤ w.heap.size) : NetAt w lo' top b c := by
  have hw := h.in_block hk hs
  refine ⟨_, _, _, _, _, hb, g5, g6, g7, hw.2.1.wide g1 g2, hw.2.2.1.wide g1 g2, hw.2.2.2.1.wide g1 g2, hw.2.2.2.2.wide g1 g2, ?_⟩
  have hl : c.pairs.length = n := by unfold Cfg.pairs; rw [pairsUp_length]; omega
  have hn' : c.nodes.toNat = n := by omega
  rw [hn']
  refine ⟨.inr ⟨q, _, rfl, g3, hq, by simp [hl], by simp [hl], ?_⟩, fun g hg => ?_⟩
  · simp only [Nat.mul_one]; exact List.take_of_length_le (by simp [hl])
  · simp [Value.ownBlock] at hg
    omega

/-- A net's lists, ready. -/
def Ready (w w2 : World) (c : Cfg) (n q : Nat) (ap as_ ab at_ : Option Addr) : Prop :=
  ∃ lo hi, w.heap.size + 1 ≤ lo ∧ (hi ≤ q ∧ w.heap.size ≤ q) ∧ q < w2.heap.size ∧ OwnAt w2 lo hi c ap as_ ab at_ ∧ w2.heap[q]? = some (.cells (List.replicate n (eI (-1))).toArray 3 (0, 0)) ∧ Below w.heap.size w w2
theorem ready_of {w wr W w1 X w2 : World} {c : Cfg} {n : Nat} {ap as_ ab at_ : Option Addr} (hlt : w.heap.size < wr.heap.size) (hr : Below w.heap.size w W) (hW : wr.heap.size ≤ W.heap.size) (h1 : OwnAt w1 W.heap.size w1.heap.size c ap as_ ab at_ ∧ Below W.heap.size W w1) (hX : Below w1.heap.size w1 X) (hb : Below X.heap.size X w2)
    (hq : w2.heap[X.heap.size]? = some (.cells (List.replicate n (eI (-1))).toArray 3 (0, 0))) (hs : X.heap.size + 1 ≤ w2.heap.size) : Ready w w2 c n X.heap.size ap as_ ab at_ := by
  have s1 := h1.2.size
  have s2 := hX.size
  have hb2 : Below w1.heap.size w1 w2 := hX.trans (hb.mono s2)
  refine ⟨W.heap.size, w1.heap.size, by omega, ⟨s2, by omega⟩, by omega, h1.1.below hb2, hq, ?_⟩
  exact (hr.trans (h1.2.mono (by omega))).trans (hb2.mono (by omega))
theorem cell_of_block {A B : World} {g : Nat} (h : A.heap[g]? = B.heap[g]?) {k : Nat} : A.cell? ⟨g, k, none⟩ = B.cell? ⟨g, k, none⟩ := by
  simp [World.cell?, h]
theorem cell_on {w1 X w2 : World} {g : Nat} (hX : Below w1.heap.size w1 X) (hb : Below X.heap.size X w2) (k : Nat) (v : Value) (h : w1.cell? ⟨g, k, none⟩ = some v) : w2.cell? ⟨g, k, none⟩ = some v := by
  have h0 := World.block_lt_of_cell? w1 _ h
  have h1 := (hX.cell (p := ⟨g, k, none⟩) h0).trans h
  exact (hb.cell (World.block_lt_of_cell? X _ h1)).trans h1

theorem halves_in {n : Int} (h4 : 4 ≤ n) (h16 : n ≤ 16) {ps : List Int} (hi : insideB ps n = true) : ∀ x ∈ halvesL n ps, 0 ≤ x ∧ x < n := by
  intro x hx
  unfold halvesL at hx
  rw [List.mem_flatMap] at hx
  obtain ⟨a, ha, hx⟩ := hx
  have h := (of_decide_eq_true hi) a ha
  simp only [List.mem_cons, List.not_mem_nil, or_false] at hx
  rcases hx with rfl | rfl
  · exact h
  · unfold stepF
    split
    · rename_i hr
      have := ringB_true hr.1
      rw [if_pos rfl]
      exact ⟨Int.emod_nonneg _ (by omega), Int.emod_lt_of_pos _ (by omega)⟩
    · rename_i hr
      exact absurd ⟨by simp [ringB]; omega, by simp [nodeB]; omega⟩ hr

/-- Between two rounds of the loop over the halves. -/
structure Pairing (w4 wr : World) (q n k : Nat) (hs : List Int) : Prop where
  blk : wr.heap[q]? = some (.cells ((pairsUp n hs k).map eI).toArray 3 (0, 0))
  rest : ∀ g, g ≠ q → wr.heap[g]? = w4.heap[g]?
  size : wr.heap.size = w4.heap.size
  low : Below q w4 wr
theorem Pairing.step {w4 wr : World} {q n k : Nat} {hs : List Int} (h : Pairing w4 wr q n k hs) (x : Int) (hx : hs[k]? = some x) : Pairing w4 (wr.setCell ⟨q, x.toNat, none⟩ (.int .i64 ((k / 2 : Nat) : Int))) q n (k + 1) hs := by
  refine ⟨?_, ?_, ?_, h.low.setCell (Nat.le_refl _) _⟩
  · rw [heap_set_same h.blk]
    have e : hs.getD k 0 = x := by rw [List.getD_eq_getElem?_getD, hx]; rfl
    simp only [pairsUp, e]
    rw [List.setIfInBounds_toArray, List.map_set]
    rfl
  · intro g hg
    rw [Below.heap_setCell _ _ _ _ hg]
    exact h.rest g hg
  · simp [World.setCell, h.size]
/-- What a round needs. -/
theorem Pairing.cells {w4 wr : World} {q n k : Nat} {hs : List Int} (h : Pairing w4 wr q n k hs) (x : Nat) (hx : x < n) : (∃ v, wr.cell? ⟨q, x, none⟩ = some v) ∧ wr.frozen? ⟨q, x, none⟩ = false := by
  refine ⟨?_, heap_thawed h.blk x⟩
  rw [heap_cell h.blk]
  have : x < ((pairsUp n hs k).map eI).toArray.size := by simp [pairsUp_length, hx]
  exact ⟨_, Array.getElem?_eq_getElem this⟩
/-- The halves, as a slice that is not empty. -/
theorem halves_slice {w4 : World} {b m : Nat} {zs : List Int} {v : Value} (ho : w4.ownsRow b 3 1 v m (zs.map eI)) (hm : 0 < m) : ∃ g cap, v = .slice (some ⟨g, 0, none⟩) m cap ∧ b ≤ g ∧ zs.length = m ∧ ∀ k x, zs[k]? = some x → w4.cell? ⟨g, k, none⟩ = some (.int .i64 x) := by
  obtain ⟨h1, ⟨rfl, rfl⟩ | ⟨g, cap, cur, rfl, hb, hg, _, _, hs, ht⟩⟩ := ho
  · omega
  · refine ⟨g, cap, rfl, hb, by simpa using h1, fun k x hk => ?_⟩
    rw [heap_cell hg]
    have e : (cur.toList.take (m * 1))[k]? = some (eI x) := by rw [ht]; simp [hk]
    have hk2 : k < zs.length := (List.getElem?_eq_some_iff.1 hk).1
    rw [List.getElem?_take] at e
    have h1' : zs.length = m := by simpa using h1
    rw [if_pos (by omega)] at e
    simpa [eI] using e
end Go.Proofs.YtibncdkekceokaaDoor
