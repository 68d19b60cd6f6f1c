/- configs.own: a config in new memory. -/
import Derived.Test.YtibncdkekceokaaDoorClone
namespace Go.Proofs.YtibncdkekceokaaDoor
open Go.RowKit

/-- The pointers over which it goes. -/
def ownPtrs (b : Nat) : Array Value := #[.pointer (some ⟨b, 1, none⟩), .pointer (some ⟨b, 2, none⟩), .pointer (some ⟨b, 4, none⟩)]
/-- Between two rounds. -/
structure OwnRel (w : World) (nodes long miss good fresh : Int) (pa sa ba ta : Option Addr) (pn pc sn sc bn bc tn tc : Nat) (ps ss bs : List Int) (k : Nat) (wr : World) (pv sv bv : Value) (m1 m2 m3 : Nat) : Prop where
  box : wr.heap[w.heap.size]? = some (.cells #[.int .i64 nodes, pv, sv, .int .i64 long, bv, .slice ta tn tc, .int .i64 miss, .int .i64 good, .int .i64 fresh] 25 (0, 0))
  ptrs : wr.heap[w.heap.size + 2]? = some (.cells (ownPtrs w.heap.size) 159 (0, 0))
  res : wr.heap[w.heap.size + 1]? = some (.cells #[.int .i64 0, .slice none 0 0, .slice none 0 0, .int .i64 0, .slice none 0 0, .slice none 0 0, .int .i64 0, .int .i64 0, .int .i64 0] 25 (0, 0))
  p0 : k = 0 → pv = .slice pa pn pc
  p1 : 1 ≤ k → OwnIn wr (w.heap.size + 3) m1 3 1 pv pn (ps.map eI)
  s0 : k ≤ 1 → sv = .slice sa sn sc
  s1 : 2 ≤ k → OwnIn wr m1 m2 3 1 sv sn (ss.map eI)
  b0 : k ≤ 2 → bv = .slice ba bn bc
  b1 : 3 ≤ k → OwnIn wr m2 m3 3 1 bv bn (bs.map eI)
  o1 : w.heap.size + 3 ≤ m1
  o2 : m1 ≤ m2
  o3 : m2 ≤ m3
  o4 : m3 ≤ wr.heap.size
  below : Below w.heap.size w wr

theorem own_step0 {w wr w1 : World} {nodes long miss good fresh : Int} {pa sa ba ta : Option Addr} {pn pc sn sc bn bc tn tc : Nat} {ps ss bs : List Int} {pv sv bv : Value} {m1 m2 m3 cap : Nat} {a : Option Addr} (R : OwnRel w nodes long miss good fresh pa sa ba ta pn pc sn sc bn bc tn tc ps ss bs 0 wr pv sv bv m1 m2 m3)
    (ho : w1.ownsRow wr.heap.size 3 1 (.slice a pn cap) pn (ps.map eI)) (hb : Below wr.heap.size wr w1) :
    OwnRel w nodes long miss good fresh pa sa ba ta pn pc sn sc bn bc tn tc ps ss bs 1 (w1.setCell ⟨w.heap.size, 1, none⟩ (.slice a pn pn)) (.slice a pn pn) sv bv w1.heap.size w1.heap.size w1.heap.size := by
  have hsz := hb.size
  have o1 := R.o1
  have o2 := R.o2
  have o3 := R.o3
  have o4 := R.o4
  have keep : ∀ g, g < wr.heap.size → g ≠ w.heap.size → (w1.setCell ⟨w.heap.size, 1, none⟩ (.slice a pn pn)).heap[g]? = wr.heap[g]? := fun g hg hne => by
    rw [Below.heap_setCell _ _ _ _ hne]; exact hb.block g hg
  have hnew : OwnIn (w1.setCell ⟨w.heap.size, 1, none⟩ (.slice a pn pn)) wr.heap.size w1.heap.size 3 1 (.slice a pn pn) pn (ps.map eI) :=
    (OwnIn.of_own ho).kept fun g hg _ => Below.heap_setCell _ _ _ _ (by simp; omega)
  have hold : ∀ {lo hi : Nat} {v : Value} {n : Nat} {cs : List Value}, w.heap.size < lo → OwnIn wr lo hi 3 1 v n cs → OwnIn (w1.setCell ⟨w.heap.size, 1, none⟩ (.slice a pn pn)) lo hi 3 1 v n cs := fun hlo h =>
    h.kept fun g hg hg2 => keep g hg2 (by omega)
  constructor
  · exact heap_set_same ((hb.block _ (by omega)).trans R.box) 1 _
  · exact (keep _ (by omega) (by omega)).trans R.ptrs
  · exact (keep _ (by omega) (by omega)).trans R.res
  · intro h; omega
  · intro _; exact ⟨hnew.1.mono (by omega), hnew.2⟩
  · intro _; exact R.s0 (by omega)
  · intro h; omega
  · intro _; exact R.b0 (by omega)
  · intro h; omega
  · omega
  · exact Nat.le_refl _
  · exact Nat.le_refl _
  · simp [World.setCell]
  · exact (R.below.trans (hb.mono (by omega))).setCell (Nat.le_refl _) _

theorem own_step1 {w wr w1 : World} {nodes long miss good fresh : Int} {pa sa ba ta : Option Addr} {pn pc sn sc bn bc tn tc : Nat} {ps ss bs : List Int} {pv sv bv : Value} {m1 m2 m3 cap : Nat} {a : Option Addr} (R : OwnRel w nodes long miss good fresh pa sa ba ta pn pc sn sc bn bc tn tc ps ss bs 1 wr pv sv bv m1 m2 m3)
    (ho : w1.ownsRow wr.heap.size 3 1 (.slice a sn cap) sn (ss.map eI)) (hb : Below wr.heap.size wr w1) :
    OwnRel w nodes long miss good fresh pa sa ba ta pn pc sn sc bn bc tn tc ps ss bs 2 (w1.setCell ⟨w.heap.size, 2, none⟩ (.slice a sn sn)) pv (.slice a sn sn) bv m1 w1.heap.size w1.heap.size := by
  have hsz := hb.size
  have o1 := R.o1
  have o2 := R.o2
  have o3 := R.o3
  have o4 := R.o4
  have keep : ∀ g, g < wr.heap.size → g ≠ w.heap.size → (w1.setCell ⟨w.heap.size, 2, none⟩ (.slice a sn sn)).heap[g]? = wr.heap[g]? := fun g hg hne => by
    rw [Below.heap_setCell _ _ _ _ hne]; exact hb.block g hg
  have hnew : OwnIn (w1.setCell ⟨w.heap.size, 2, none⟩ (.slice a sn sn)) wr.heap.size w1.heap.size 3 1 (.slice a sn sn) sn (ss.map eI) :=
    (OwnIn.of_own ho).kept fun g hg _ => Below.heap_setCell _ _ _ _ (by simp; omega)
  have hold : ∀ {lo hi : Nat} {v : Value} {n : Nat} {cs : List Value}, w.heap.size < lo → OwnIn wr lo hi 3 1 v n cs → OwnIn (w1.setCell ⟨w.heap.size, 2, none⟩ (.slice a sn sn)) lo hi 3 1 v n cs := fun hlo h =>
    h.kept fun g hg hg2 => keep g hg2 (by omega)
  constructor
  · exact heap_set_same ((hb.block _ (by omega)).trans R.box) 2 _
  · exact (keep _ (by omega) (by omega)).trans R.ptrs
  · exact (keep _ (by omega) (by omega)).trans R.res
  · intro h; omega
  · intro _; exact hold (by omega) (R.p1 (by omega))
  · intro h; omega
  · intro _; exact ⟨hnew.1.mono (by omega), hnew.2⟩
  · intro _; exact R.b0 (by omega)
  · intro h; omega
  · omega
  · omega
  · exact Nat.le_refl _
  · simp [World.setCell]
  · exact (R.below.trans (hb.mono (by omega))).setCell (Nat.le_refl _) _

theorem own_step2 {w wr w1 : World} {nodes long miss good fresh : Int} {pa sa ba ta : Option Addr} {pn pc sn sc bn bc tn tc : Nat} {ps ss bs : List Int} {pv sv bv : Value} {m1 m2 m3 cap : Nat} {a : Option Addr} (R : OwnRel w nodes long miss good fresh pa sa ba ta pn pc sn sc bn bc tn tc ps ss bs 2 wr pv sv bv m1 m2 m3)
    (ho : w1.ownsRow wr.heap.size 3 1 (.slice a bn cap) bn (bs.map eI)) (hb : Below wr.heap.size wr w1) :
    OwnRel w nodes long miss good fresh pa sa ba ta pn pc sn sc bn bc tn tc ps ss bs 3 (w1.setCell ⟨w.heap.size, 4, none⟩ (.slice a bn bn)) pv sv (.slice a bn bn) m1 m2 w1.heap.size := by
  have hsz := hb.size
  have o1 := R.o1
  have o2 := R.o2
  have o3 := R.o3
  have o4 := R.o4
  have keep : ∀ g, g < wr.heap.size → g ≠ w.heap.size → (w1.setCell ⟨w.heap.size, 4, none⟩ (.slice a bn bn)).heap[g]? = wr.heap[g]? := fun g hg hne => by
    rw [Below.heap_setCell _ _ _ _ hne]; exact hb.block g hg
  have hnew : OwnIn (w1.setCell ⟨w.heap.size, 4, none⟩ (.slice a bn bn)) wr.heap.size w1.heap.size 3 1 (.slice a bn bn) bn (bs.map eI) :=
    (OwnIn.of_own ho).kept fun g hg _ => Below.heap_setCell _ _ _ _ (by simp; omega)
  have hold : ∀ {lo hi : Nat} {v : Value} {n : Nat} {cs : List Value}, w.heap.size < lo → OwnIn wr lo hi 3 1 v n cs → OwnIn (w1.setCell ⟨w.heap.size, 4, none⟩ (.slice a bn bn)) lo hi 3 1 v n cs := fun hlo h =>
    h.kept fun g hg hg2 => keep g hg2 (by omega)
  constructor
  · exact heap_set_same ((hb.block _ (by omega)).trans R.box) 4 _
  · exact (keep _ (by omega) (by omega)).trans R.ptrs
  · exact (keep _ (by omega) (by omega)).trans R.res
  · intro h; omega
  · intro _; exact hold (by omega) (R.p1 (by omega))
  · intro h; omega
  · intro _; exact hold (by omega) (R.s1 (by omega))
  · intro h; omega
  · intro _; exact ⟨hnew.1.mono (by omega), hnew.2⟩
  · omega
  · omega
  · omega
  · simp [World.setCell]
  · exact (R.below.trans (hb.mono (by omega))).setCell (Nat.le_refl _) _

set_option maxRecDepth 100000 in
set_option maxHeartbeats 4000000 in
theorem own_any (nodes long miss good fresh : Int) (pa sa ba ta : Option Addr) (pn pc sn sc bn bc tn tc : Nat) (ps ss bs : List Int) (ts : List (Int × Int × Int)) (w : World)
    (op : SliceOK pa pn pc) (os : SliceOK sa sn sc) (ob : SliceOK ba bn bc) (ot : SliceOK ta tn tc) (rp : Reads w eI pa pn ps) (rs : Reads w eI sa sn ss) (rb : Reads w eI ba bn bs) (rt : ReadsSt w ta tn ts)
    (lp : pn ≤ 1000000) (ls : sn ≤ 1000000) (lb : bn ≤ 1000000) (lt : tn ≤ 1000000) :
    Calls Tryd.prog 68 #[.agg #[.int .i64 nodes, .slice pa pn pc, .slice sa sn sc, .int .i64 long, .slice ba bn bc, .slice ta tn tc, .int .i64 miss, .int .i64 good, .int .i64 fresh]] w fun e w' => ∃ pv sv bv tv m1 m2 m3, e = .returned (.agg #[.int .i64 nodes, pv, sv, .int .i64 long, bv, tv, .int .i64 miss, .int .i64 good, .int .i64 fresh]) ∧
      OwnIn w' (w.heap.size + 3) m1 3 1 pv pn (ps.map eI) ∧ OwnIn w' m1 m2 3 1 sv sn (ss.map eI) ∧ OwnIn w' m2 m3 3 1 bv bn (bs.map eI) ∧ OwnIn w' m3 w'.heap.size 53 3 tv tn (ts.flatMap eSt) ∧
      w.heap.size + 3 ≤ m1 ∧ m1 ≤ m2 ∧ m2 ≤ m3 ∧ m3 ≤ w'.heap.size ∧ Below w.heap.size w w' := by
  go_enter Tryd.func68, Tryd.ntmps68
  go_wp2
  go_loopw [10] (fun i wr => ∃ k pv sv bv m1 m2 m3, k ≤ 3 ∧ i = .int .i64 (k : Nat) ∧ OwnRel w nodes long miss good fresh pa sa ba ta pn pc sn sc bn bc tn tc ps ss bs k wr pv sv bv m1 m2 m3) (fun i _ => 3 - (intOf i).toNat)
  case atStart =>
    refine ⟨0, .slice pa pn pc, .slice sa sn sc, .slice ba bn bc, w.heap.size + 3, w.heap.size + 3, w.heap.size + 3, by omega, rfl, ?_⟩
    constructor
    · rw [Below.heap_alloc _ _ _ (by simp; omega), Below.heap_alloc _ _ _ (by simp)]; exact heap_new _ _ _ rfl
    · exact heap_new _ _ _ (by simp)
    · rw [Below.heap_alloc _ _ _ (by simp)]; exact heap_new _ _ _ (by simp)
    · intro _; rfl
    · intro h; omega
    · intro _; rfl
    · intro h; omega
    · intro _; rfl
    · intro h; omega
    · exact Nat.le_refl _
    · exact Nat.le_refl _
    · exact Nat.le_refl _
    · simp
    · exact (((Below.refl w.heap.size w).alloc (Nat.le_refl _) _).alloc (by simp) _).alloc (by simp; omega) _
  case round =>
    obtain ⟨k, pv, sv, bv, m1, m2, m3, hk, rfl, R⟩ := hrel
    obtain rfl | rfl | rfl | rfl : k = 0 ∨ k = 1 ∨ k = 2 ∨ k = 3 := by omega
    · have hp : wr.cell? ⟨w.heap.size + 2, 0, none⟩ = some (.pointer (some ⟨w.heap.size, 1, none⟩)) := heap_cell R.ptrs 0
      have hv : wr.cell? ⟨w.heap.size, 1, none⟩ = some (.slice pa pn pc) := by rw [heap_cell R.box 1, R.p0 rfl]; rfl
      have HR := Lib.hid R
      clear R
      go_wp2_with fail
      refine (clone_any pa pn pc ps wr op (rp.below HR.out.below) lp).mono ?_
      rintro e w1 ⟨a', cap', rfl, ho, hb⟩
      have hsz : w.heap.size + 3 ≤ wr.heap.size := by have := HR.out.o1; have := HR.out.o2; have := HR.out.o3; have := HR.out.o4; omega
      have hbx := (hb.block w.heap.size (by omega)).trans HR.out.box
      have hc1 : w1.cell? ⟨w.heap.size, 1, none⟩ = some (.slice pa pn pc) := (hb.cell (p := ⟨w.heap.size, 1, none⟩) (by simp; omega)).trans hv
      have hf1 : w1.frozen? ⟨w.heap.size, 1, none⟩ = false := heap_thawed hbx 1
      have hok : SliceOK a' pn cap' := by
        obtain ⟨a2, c2, h2, h3⟩ := own_slice ho
        simp only [Value.slice.injEq, true_and] at h2
        obtain ⟨rfl, rfl⟩ := h2
        exact h3
      have HN := Lib.hid (own_step0 HR.out ho hb)
      clear hbx hp hv ho hb
      go_wp2_with (go_at_call 113; refine (clip_any _ _ _ _ hok).mono ?_; rintro e w' ⟨rfl, rfl⟩)
      go_roundw
      case rel => exact ⟨1, _, _, _, _, _, _, by omega, by go_num, HN.out⟩
      case measure => simp [intOf]
    · have hp : wr.cell? ⟨w.heap.size + 2, 1, none⟩ = some (.pointer (some ⟨w.heap.size, 2, none⟩)) := heap_cell R.ptrs 1
      have hv : wr.cell? ⟨w.heap.size, 2, none⟩ = some (.slice sa sn sc) := by rw [heap_cell R.box 2, R.s0 (by omega)]; rfl
      have HR := Lib.hid R
      clear R
      go_wp2_with fail
      refine (clone_any sa sn sc ss wr os (rs.below HR.out.below) ls).mono ?_
      rintro e w1 ⟨a', cap', rfl, ho, hb⟩
      have hsz : w.heap.size + 3 ≤ wr.heap.size := by have := HR.out.o1; have := HR.out.o2; have := HR.out.o3; have := HR.out.o4; omega
      have hbx := (hb.block w.heap.size (by omega)).trans HR.out.box
      have hc1 : w1.cell? ⟨w.heap.size, 2, none⟩ = some (.slice sa sn sc) := (hb.cell (p := ⟨w.heap.size, 2, none⟩) (by simp; omega)).trans hv
      have hf1 : w1.frozen? ⟨w.heap.size, 2, none⟩ = false := heap_thawed hbx 2
      have hok : SliceOK a' sn cap' := by
        obtain ⟨a2, c2, h2, h3⟩ := own_slice ho
        simp only [Value.slice.injEq, true_and] at h2
        obtain ⟨rfl, rfl⟩ := h2
        exact h3
      have HN := Lib.hid (own_step1 HR.out ho hb)
      clear hbx hp hv ho hb
      go_wp2_with (go_at_call 113; refine (clip_any _ _ _ _ hok).mono ?_; rintro e w' ⟨rfl, rfl⟩)
      go_roundw
      case rel => exact ⟨2, _, _, _, _, _, _, by omega, by go_num, HN.out⟩
      case measure => simp [intOf]
    · have hp : wr.cell? ⟨w.heap.size + 2, 2, none⟩ = some (.pointer (some ⟨w.heap.size, 4, none⟩)) := heap_cell R.ptrs 2
      have hv : wr.cell? ⟨w.heap.size, 4, none⟩ = some (.slice ba bn bc) := by rw [heap_cell R.box 4, R.b0 (by omega)]; rfl
      have HR := Lib.hid R
      clear R
      go_wp2_with fail
      refine (clone_any ba bn bc bs wr ob (rb.below HR.out.below) lb).mono ?_
      rintro e w1 ⟨a', cap', rfl, ho, hb⟩
      have hsz : w.heap.size + 3 ≤ wr.heap.size := by have := HR.out.o1; have := HR.out.o2; have := HR.out.o3; have := HR.out.o4; omega
      have hbx := (hb.block w.heap.size (by omega)).trans HR.out.box
      have hc1 : w1.cell? ⟨w.heap.size, 4, none⟩ = some (.slice ba bn bc) := (hb.cell (p := ⟨w.heap.size, 4, none⟩) (by simp; omega)).trans hv
      have hf1 : w1.frozen? ⟨w.heap.size, 4, none⟩ = false := heap_thawed hbx 4
      have hok : SliceOK a' bn cap' := by
        obtain ⟨a2, c2, h2, h3⟩ := own_slice ho
        simp only [Value.slice.injEq, true_and] at h2
        obtain ⟨rfl, rfl⟩ := h2
        exact h3
      have HN := Lib.hid (own_step2 HR.out ho hb)
      clear hbx hp hv ho hb
      go_wp2_with (go_at_call 113; refine (clip_any _ _ _ _ hok).mono ?_; rintro e w' ⟨rfl, rfl⟩)
      go_roundw
      case rel => exact ⟨3, _, _, _, _, _, _, by omega, by go_num, HN.out⟩
      case measure => simp [intOf]
    · have hv : wr.cell? ⟨w.heap.size, 5, none⟩ = some (.slice ta tn tc) := heap_cell R.box 5
      have HR := Lib.hid R
      clear R
      go_wp2_with fail
      refine (cloneSt_any ta tn tc ts wr ot (rt.below HR.out.below) lt).mono ?_
      rintro e w1 ⟨a', cap', rfl, ho, hb⟩
      have hsz : w.heap.size + 3 ≤ wr.heap.size := by have := HR.out.o1; have := HR.out.o2; have := HR.out.o3; have := HR.out.o4; omega
      have hbx := (hb.block w.heap.size (by omega)).trans HR.out.box
      have hrs := (hb.block (w.heap.size + 1) (by omega)).trans HR.out.res
      obtain ⟨ap, rfl, _⟩ := (HR.out.p1 (by omega)).1.value
      obtain ⟨as_, rfl, _⟩ := (HR.out.s1 (by omega)).1.value
      obtain ⟨ab, rfl, _⟩ := (HR.out.b1 (by omega)).1.value
      have c0 := heap_cell hbx 0
      have r0 := heap_cell hrs 0
      have f0 := heap_thawed hrs 0
      have c1 := heap_cell hbx 1
      have r1 := heap_cell hrs 1
      have f1 := heap_thawed hrs 1
      have c2 := heap_cell hbx 2
      have r2 := heap_cell hrs 2
      have f2 := heap_thawed hrs 2
      have c3 := heap_cell hbx 3
      have r3 := heap_cell hrs 3
      have f3 := heap_thawed hrs 3
      have c4 := heap_cell hbx 4
      have r4 := heap_cell hrs 4
      have f4 := heap_thawed hrs 4
      have c5 := heap_cell hbx 5
      have r5 := heap_cell hrs 5
      have f5 := heap_thawed hrs 5
      have c6 := heap_cell hbx 6
      have r6 := heap_cell hrs 6
      have f6 := heap_thawed hrs 6
      have c7 := heap_cell hbx 7
      have r7 := heap_cell hrs 7
      have f7 := heap_thawed hrs 7
      have c8 := heap_cell hbx 8
      have r8 := heap_cell hrs 8
      have f8 := heap_thawed hrs 8
      have g5 := heap_thawed hbx 5
      have hok : SliceOK a' tn cap' := by
        obtain ⟨a2, c2, h2, h3⟩ := own_slice ho
        simp only [Value.slice.injEq, true_and] at h2
        obtain ⟨rfl, rfl⟩ := h2
        exact h3
      simp only [List.getElem?_toArray, List.getElem?_cons_zero, List.getElem?_cons_succ] at c0 c1 c2 c3 c4 c5 c6 c7 c8 r0 r1 r2 r3 r4 r5 r6 r7 r8
      have HO := Lib.hid ho
      have HB := Lib.hid hb
      have H1 := Lib.hid hbx
      have H2 := Lib.hid hrs
      clear hbx hrs hv ho hb
      go_wp2_with (go_at_call 115; refine (clipSt_any _ _ _ _ hok).mono ?_; rintro e w' ⟨rfl, rfl⟩)
      have e0 := ((Below.heap_setCell w1 ⟨w.heap.size, 5, none⟩ (.slice a' tn tn) (w.heap.size + 1) (by simp)).trans H2.out)
      have e1 := heap_set_same e0 0 (.int .i64 nodes)
      have e2 := heap_set_same e1 1 (.slice ap pn pn)
      have e3 := heap_set_same e2 2 (.slice as_ sn sn)
      have e4 := heap_set_same e3 3 (.int .i64 long)
      have e5 := heap_set_same e4 4 (.slice ab bn bn)
      have e6 := heap_set_same e5 5 (.slice a' tn tn)
      have e7 := heap_set_same e6 6 (.int .i64 miss)
      have e8 := heap_set_same e7 7 (.int .i64 good)
      have e9 := heap_set_same e8 8 (.int .i64 fresh)
      have hk : ∀ g, w.heap.size + 2 ≤ g → ((((((((((w1.setCell ⟨w.heap.size, 5, none⟩ (.slice a' tn tn)).setCell ⟨w.heap.size + 1, 0, none⟩ (.int .i64 nodes)).setCell ⟨w.heap.size + 1, 1, none⟩ (.slice ap pn pn)).setCell ⟨w.heap.size + 1, 2, none⟩ (.slice as_ sn sn)).setCell ⟨w.heap.size + 1, 3, none⟩ (.int .i64 long)).setCell ⟨w.heap.size + 1, 4, none⟩ (.slice ab bn bn)).setCell ⟨w.heap.size + 1, 5, none⟩ (.slice a' tn tn)).setCell ⟨w.heap.size + 1, 6, none⟩ (.int .i64 miss)).setCell ⟨w.heap.size + 1, 7, none⟩ (.int .i64 good)).setCell ⟨w.heap.size + 1, 8, none⟩ (.int .i64 fresh)).heap[g]? = w1.heap[g]? := fun g hg => by
        rw [Below.heap_setCell _ _ _ _ (by simp; omega), Below.heap_setCell _ _ _ _ (by simp; omega), Below.heap_setCell _ _ _ _ (by simp; omega), Below.heap_setCell _ _ _ _ (by simp; omega), Below.heap_setCell _ _ _ _ (by simp; omega), Below.heap_setCell _ _ _ _ (by simp; omega), Below.heap_setCell _ _ _ _ (by simp; omega), Below.heap_setCell _ _ _ _ (by simp; omega), Below.heap_setCell _ _ _ _ (by simp; omega), Below.heap_setCell _ _ _ _ (by simp; omega)]
      have hbl : Below w.heap.size w ((((((((((w1.setCell ⟨w.heap.size, 5, none⟩ (.slice a' tn tn)).setCell ⟨w.heap.size + 1, 0, none⟩ (.int .i64 nodes)).setCell ⟨w.heap.size + 1, 1, none⟩ (.slice ap pn pn)).setCell ⟨w.heap.size + 1, 2, none⟩ (.slice as_ sn sn)).setCell ⟨w.heap.size + 1, 3, none⟩ (.int .i64 long)).setCell ⟨w.heap.size + 1, 4, none⟩ (.slice ab bn bn)).setCell ⟨w.heap.size + 1, 5, none⟩ (.slice a' tn tn)).setCell ⟨w.heap.size + 1, 6, none⟩ (.int .i64 miss)).setCell ⟨w.heap.size + 1, 7, none⟩ (.int .i64 good)).setCell ⟨w.heap.size + 1, 8, none⟩ (.int .i64 fresh)) :=
        ((((((((((HR.out.below.trans (HB.out.mono (by omega))).setCell (Nat.le_refl _) _).setCell (Nat.le_succ _) _).setCell (Nat.le_succ _) _).setCell (Nat.le_succ _) _).setCell (Nat.le_succ _) _).setCell (Nat.le_succ _) _).setCell (Nat.le_succ _) _).setCell (Nat.le_succ _) _).setCell (Nat.le_succ _) _).setCell (Nat.le_succ _) _
      have hzz : ((((((((((w1.setCell ⟨w.heap.size, 5, none⟩ (.slice a' tn tn)).setCell ⟨w.heap.size + 1, 0, none⟩ (.int .i64 nodes)).setCell ⟨w.heap.size + 1, 1, none⟩ (.slice ap pn pn)).setCell ⟨w.heap.size + 1, 2, none⟩ (.slice as_ sn sn)).setCell ⟨w.heap.size + 1, 3, none⟩ (.int .i64 long)).setCell ⟨w.heap.size + 1, 4, none⟩ (.slice ab bn bn)).setCell ⟨w.heap.size + 1, 5, none⟩ (.slice a' tn tn)).setCell ⟨w.heap.size + 1, 6, none⟩ (.int .i64 miss)).setCell ⟨w.heap.size + 1, 7, none⟩ (.int .i64 good)).setCell ⟨w.heap.size + 1, 8, none⟩ (.int .i64 fresh)).heap.size = w1.heap.size := by simp [World.setCell]
      generalize ((((((((((w1.setCell ⟨w.heap.size, 5, none⟩ (.slice a' tn tn)).setCell ⟨w.heap.size + 1, 0, none⟩ (.int .i64 nodes)).setCell ⟨w.heap.size + 1, 1, none⟩ (.slice ap pn pn)).setCell ⟨w.heap.size + 1, 2, none⟩ (.slice as_ sn sn)).setCell ⟨w.heap.size + 1, 3, none⟩ (.int .i64 long)).setCell ⟨w.heap.size + 1, 4, none⟩ (.slice ab bn bn)).setCell ⟨w.heap.size + 1, 5, none⟩ (.slice a' tn tn)).setCell ⟨w.heap.size + 1, 6, none⟩ (.int .i64 miss)).setCell ⟨w.heap.size + 1, 7, none⟩ (.int .i64 good)).setCell ⟨w.heap.size + 1, 8, none⟩ (.int .i64 fresh)) = W9 at e9 hk hbl hzz ⊢
      clear e0 e1 e2 e3 e4 e5 e6 e7 e8 c0 c1 c2 c3 c4 c5 c6 c7 c8 r0 r1 r2 r3 r4 r5 r6 r7 r8 f0 f1 f2 f3 f4 f5 f6 f7 f8
      have q0 := heap_cell e9 0
      have q1 := heap_cell e9 1
      have q2 := heap_cell e9 2
      have q3 := heap_cell e9 3
      have q4 := heap_cell e9 4
      have q5 := heap_cell e9 5
      have q6 := heap_cell e9 6
      have q7 := heap_cell e9 7
      have q8 := heap_cell e9 8
      simp only [List.setIfInBounds_toArray, List.set_cons_zero, List.set_cons_succ, List.getElem?_toArray, List.getElem?_cons_zero, List.getElem?_cons_succ] at q0 q1 q2 q3 q4 q5 q6 q7 q8
      refine bodyPost_ret (v := .agg #[.int .i64 nodes, .slice ap pn pn, .slice as_ sn sn, .int .i64 long, .slice ab bn bn, .slice a' tn tn, .int .i64 miss, .int .i64 good, .int .i64 fresh]) (by simp [results, Tryd.results68, go_sem, q0, q1, q2, q3, q4, q5, q6, q7, q8]) rfl ?_
      have hwr := HB.out.size
      have hold : ∀ {lo hi e size : Nat} {v : Value} {n : Nat} {cs : List Value}, w.heap.size + 2 ≤ lo → OwnIn wr lo hi e size v n cs → OwnIn W9 lo hi e size v n cs := fun hlo h =>
        (h.below HB.out).kept fun g hg _ => hk g (by omega)
      have hm := HR.out
      refine ⟨_, _, _, _, m1, m2, m3, rfl, hold (by omega) (hm.p1 (by omega)), hold (by have := hm.o1; omega) (hm.s1 (by omega)), hold (by have := hm.o1; have := hm.o2; omega) (hm.b1 (by omega)), ?_, hm.o1, hm.o2, hm.o3, by have := hm.o4; omega, hbl⟩
      have hn := OwnIn.of_own HO.out
      rw [hzz]
      exact OwnIn.kept (w := w1) ⟨hn.1.mono hm.o4, hn.2⟩ fun g hg _ => hk g (by have := hm.o1; have := hm.o2; have := hm.o3; omega)
end Go.Proofs.YtibncdkekceokaaDoor
