/- CoreC: joined of: NewB, Net, NetOf, View, Frame, Open, Laid, Plain. -/
import Derived.Test.YtibncdkekceokaaDoorCoreB
import Derived.Test.YtibncdkekceokaaDoorCoreA
import Derived.Laws.EntriesVeiled
import Derived.Laws.Tables
import Derived.Deep.WholeRow
import Derived.Test.YtibncdkekceokaaDoorRows
import Derived.ProofKit
import Derived.LaidMore
import Derived.OpenShut
import Derived.Carry
import Derived.Deep.Slices
import Derived.MakeChecks
/- configs.New: what is wrong first, or else a net of the config. -/
namespace Go.Proofs.YtibncdkekceokaaDoor
open Go.RowKit

/-- The rules, as they lie in memory. -/
def ruleCells : Array Value := #[.func (.func 95) #[] #[], .func (.func 97) #[] #[], .func (.func 98) #[] #[], .func (.func 103) #[] #[], .func (.func 104) #[] #[], .func (.func 106) #[] #[], .func (.func 107) #[] #[], .func (.func 110) #[] #[], .func (.func 111) #[] #[], .func (.func 112) #[] #[]]
theorem ruleCells_eq : ruleCells = #[.func (.func 95) #[] #[], .func (.func 97) #[] #[], .func (.func 98) #[] #[], .func (.func 103) #[] #[], .func (.func 104) #[] #[], .func (.func 106) #[] #[], .func (.func 107) #[] #[], .func (.func 110) #[] #[], .func (.func 111) #[] #[], .func (.func 112) #[] #[]] := rfl
def NewPost (w : World) (c : Cfg) (e : Ending) (w' : World) : Prop :=
  (c.err ≠ 0 ∧ e = .returned (.tuple #[.pointer none, .int .i64 c.err]) ∧ Below w.heap.size w w') ∨
  (c.err = 0 ∧ ∃ b, e = .returned (.tuple #[.pointer (some ⟨b, 0, none⟩), .int .i64 0]) ∧ NetAt w' w.heap.size w'.heap.size b c ∧ Below w.heap.size w w')
theorem NewPost.wrong {w w' : World} {c : Cfg} {x : Int} (k : Nat) (hk : k < 10) (h : ∀ j, j < k → c.rule j = 0) (hr : c.rule k = x) (hne : (x != 0) = true) (hb : Below w.heap.size w w') : NewPost w c (.returned (.tuple #[.pointer none, .int .i64 x])) w' := by
  have hne' : c.rule k ≠ 0 := by rw [hr]; simpa using hne
  have he := c.err_at k hk h hne'
  refine .inl ⟨by rw [he]; exact hne', ?_, hb⟩
  rw [he, hr]
theorem zero_succ {f : Nat → Int} {k : Nat} {x : Int} (h : ∀ j, j < k → f j = 0) (hr : f k = x) (he : (x != 0) = false) : ∀ j, j < k + 1 → f j = 0 := fun j hj => by
  by_cases e : j = k
  · subst e; rw [hr]; simpa using he
  · exact h j (by omega)
theorem NewPost.made {w w2 w4 wr : World} {n q : Nat} {long miss good fresh : Int} {pa sa ba ta : Option Addr} {pn pc sn sc bn bc tn tc : Nat} {ps ss bs : List Int} {ts : List (Int × Int × Int)} {c : Cfg} {ap as_ ab at_ : Option Addr}
    (hz : ∀ j, j < 10 → c.rule j = 0) (hc : c = ⟨n, long, miss, good, fresh, ps, ss, bs, ts⟩) (C : CfgIn w n long miss good fresh pa sa ba ta pn pc sn sc bn bc tn tc ps ss bs ts) (hT : Ready w w2 c n q ap as_ ab at_) (hb4 : Below (w2.heap.size + 1) (w2.alloc (.cells #[.int .i64 n, .slice ap pn pn, .slice as_ sn sn, .int .i64 long, .slice ab bn bn, .slice at_ tn tn, .int .i64 miss, .int .i64 good, .int .i64 fresh, .slice (some ⟨q, 0, none⟩) n n] 56)) w4)
    (hN : w4.heap[w2.heap.size]? = some (.cells #[.int .i64 n, .slice ap pn pn, .slice as_ sn sn, .int .i64 long, .slice ab bn bn, .slice at_ tn tn, .int .i64 miss, .int .i64 good, .int .i64 fresh, .slice (some ⟨q, 0, none⟩) n n] 56 (0, 0))) (hs : w2.heap.size + 1 ≤ w4.heap.size) (hR : Pairing w4 wr q n (2 * pn) (halvesL n ps)) :
    NewPost w c (.returned (.tuple #[.pointer (some ⟨w2.heap.size, 0, none⟩), .int .i64 0])) wr := by
  obtain ⟨lo, hi, r1, r2, r3, r4, r5, r6⟩ := hT
  have hsz := r6.size
  have hsr := hR.size
  obtain rfl := C.rp.len
  obtain rfl := C.rs.len
  obtain rfl := C.rb.len
  obtain rfl := C.rt.len
  subst hc
  have hbl : Below w.heap.size w wr := ((r6.alloc hsz _).trans (hb4.mono (by omega))).trans (hR.low.mono (by omega))
  refine .inr ⟨Cfg.err_none _ hz, w2.heap.size, rfl, ?_, hbl⟩
  refine net_made (w1 := w2) (lo := lo) (hi := hi) r4 (fun g hg1 hg2 => ?_) (by omega) n rfl ?_ ((hR.rest _ (by omega)).trans hN) (by omega) (by omega) (by omega) (by omega) (by omega) (by omega) (Nat.le_refl _)
  · rw [hR.rest g (by omega), hb4.block g (by omega), Below.heap_alloc _ _ _ (by omega)]
  · have := hR.blk
    simpa [Cfg.pairs] using this
theorem rules_cells (w : World) :
    Calls Tryd.prog 67 #[] w fun e w' => e = .returned (.slice (some ⟨w.heap.size, 0, none⟩) 10 10) ∧ w.alloc (.cells ruleCells 130) = w' := rules_any w

set_option maxRecDepth 100000 in
set_option maxHeartbeats 8000000 in
theorem new_any (nodes long miss good fresh : Int) (pa sa ba ta : Option Addr) (pn pc sn sc bn bc tn tc : Nat) (ps ss bs : List Int) (ts : List (Int × Int × Int)) (w : World) (hs : Signs w) (hC : CfgIn w nodes long miss good fresh pa sa ba ta pn pc sn sc bn bc tn tc ps ss bs ts) :
    Calls Tryd.prog 22 #[.agg #[.int .i64 nodes, .slice pa pn pc, .slice sa sn sc, .int .i64 long, .slice ba bn bc, .slice ta tn tc, .int .i64 miss, .int .i64 good, .int .i64 fresh]] w (NewPost w ⟨nodes, long, miss, good, fresh, ps, ss, bs, ts⟩) := by
  obtain ⟨c, hc⟩ : ∃ c, c = Cfg.mk nodes long miss good fresh ps ss bs ts := ⟨_, rfl⟩
  rw [← hc]
  have HC := Lib.hid hC
  have HR0 := Lib.hid (show c.rule 0 = withinE nodes 4 16 by subst hc; rfl)
  have HR1 := Lib.hid (show c.rule 1 = withinE pn 2 8 by subst hc; simp only [Cfg.rule, hC.rp.len])
  have HR2 := Lib.hid (show c.rule 2 = mustE (rule3B nodes ps) by subst hc; rfl)
  have HR3 := Lib.hid (show c.rule 3 = withinE sn 1 16 by subst hc; simp only [Cfg.rule, hC.rs.len])
  have HR4 := Lib.hid (show c.rule 4 = mustE (slotsB ss pn) by subst hc; simp only [Cfg.rule, hC.rp.len])
  have HR5 := Lib.hid (show c.rule 5 = withinE long (max (3 * nodes + 1) (nodes + 116)) 4096 by subst hc; rfl)
  have HR6 := Lib.hid (show c.rule 6 = firstE [mustE ((bn : Int) == nodes), eachE bs 0 4096] by subst hc; simp only [Cfg.rule, hC.rb.len])
  have HR7 := Lib.hid (show c.rule 7 = withinE tn 0 8 by subst hc; simp only [Cfg.rule, hC.rt.len])
  have HR8 := Lib.hid (show c.rule 8 = stationsE nodes ts by subst hc; rfl)
  have HR9 := Lib.hid (show c.rule 9 = eachE [miss, good, fresh] 1 100 by subst hc; rfl)
  have HCC := Lib.hid hc
  clear hC hc
  have hbB := ((Below.refl w.heap.size w).alloc (Nat.le_refl _) (.cells #[.int .i64 nodes, .slice pa pn pc, .slice sa sn sc, .int .i64 long, .slice ba bn bc, .slice ta tn tc, .int .i64 miss, .int .i64 good, .int .i64 fresh] 25)).alloc (by simp) (.cells ruleCells 130)
  have HB := Lib.hid hbB
  clear hbB
  go_enter Tryd.func22, Tryd.ntmps22
  go_wp2_with (go_at_call 67; refine (rules_cells _).mono ?_; rintro e w' ⟨rfl, rfl⟩)
  go_loopw [12] (fun i wr => ∃ k : Nat, k ≤ 10 ∧ i = .int .i64 k ∧ Hid (∀ j, j < k → c.rule j = 0) ∧ Hid (wr.heap[w.heap.size]? = some (.cells #[.int .i64 nodes, .slice pa pn pc, .slice sa sn sc, .int .i64 long, .slice ba bn bc, .slice ta tn tc, .int .i64 miss, .int .i64 good, .int .i64 fresh] 25 (0, 0)) ∧ wr.heap[w.heap.size + 1]? = some (.cells ruleCells 130 (0, 0)) ∧ Below w.heap.size w wr)) (fun i _ => 10 - (intOf i).toNat)
  case atStart =>
    refine ⟨0, by omega, rfl, Lib.hid (fun j hj => by omega), Lib.hid ⟨?_, ?_, HB.out⟩⟩
    · rw [Below.heap_alloc _ _ _ (by simp)]; exact heap_new _ _ _ rfl
    · exact heap_new _ _ _ (by simp)
  case round =>
    obtain ⟨k, hk, rfl, HZ, HM⟩ := hrel
    obtain ⟨hbx, hrl, hbl⟩ := HM.out
    have hlt1 : w.heap.size + 1 < wr.heap.size := (Array.getElem?_eq_some_iff.1 hrl).1
    have hlt0 : w.heap.size < wr.heap.size := by omega
    have q0 := heap_cell hbx 0
    have q1 := heap_cell hbx 1
    have q2 := heap_cell hbx 2
    have q3 := heap_cell hbx 3
    have q4 := heap_cell hbx 4
    have q5 := heap_cell hbx 5
    have q6 := heap_cell hbx 6
    have q7 := heap_cell hbx 7
    have q8 := heap_cell hbx 8
    simp only [List.getElem?_toArray, List.getElem?_cons_zero, List.getElem?_cons_succ] at q0 q1 q2 q3 q4 q5 q6 q7 q8
    obtain rfl | rfl | rfl | rfl | rfl | rfl | rfl | rfl | rfl | rfl | rfl : k = 0 ∨ k = 1 ∨ k = 2 ∨ k = 3 ∨ k = 4 ∨ k = 5 ∨ k = 6 ∨ k = 7 ∨ k = 8 ∨ k = 9 ∨ k = 10 := by omega
    · have hf : wr.cell? ⟨w.heap.size + 1, 0, none⟩ = some (.func (.func 95) #[] #[]) := heap_cell hrl 0
      have hW1 : Below w.heap.size w (wr.alloc (.cells #[.func (.func 95) #[] #[]] 130)) := hbl.alloc (by omega) _
      clear hbx hrl hbl hk
      go_wp2_with fail
      refine (rule1_any nodes long miss good fresh pa sa ba ta pn pc sn sc bn bc tn tc _).mono ?_
      rintro e w2 ⟨rfl, hb2⟩
      have hW2 := hW1.trans (hb2.mono (by simp; omega))
      have hbx2 := (hb2.block w.heap.size (by simp; omega)).trans ((Below.heap_alloc _ _ _ (by omega)).trans HM.out.1)
      have hrl2 := (hb2.block (w.heap.size + 1) (by simp; omega)).trans ((Below.heap_alloc _ _ _ (by omega)).trans HM.out.2.1)
      have H2 := Lib.hid (⟨hbx2, hrl2, hW2⟩ : _ ∧ _ ∧ Below w.heap.size w w2)
      clear hb2 hW2 hbx2 hrl2 hW1 hf q0 q1 q2 q3 q4 q5 q6 q7 q8
      generalize hx : withinE nodes 4 16 = x at HR0
      clear hx
      go_wp2
      · have hne : (x != 0) = true := by assumption
        go_ret2
        exact NewPost.wrong 0 (by omega) HZ.out HR0.out hne H2.out.2.2
      · have heq : (x != 0) = false := by assumption
        go_roundw
        case rel => exact ⟨1, by omega, by go_num, Lib.hid (zero_succ HZ.out HR0.out heq), H2⟩
        case measure => simp [intOf]
    · have hf : wr.cell? ⟨w.heap.size + 1, 1, none⟩ = some (.func (.func 97) #[] #[]) := heap_cell hrl 1
      have hW1 : Below w.heap.size w (wr.alloc (.cells #[.func (.func 97) #[] #[]] 130)) := hbl.alloc (by omega) _
      clear hbx hrl hbl hk
      go_wp2_with fail
      refine (rule2_any nodes long miss good fresh pa sa ba ta pn pc sn sc bn bc tn tc _).mono ?_
      rintro e w2 ⟨rfl, hb2⟩
      have hW2 := hW1.trans (hb2.mono (by simp; omega))
      have hbx2 := (hb2.block w.heap.size (by simp; omega)).trans ((Below.heap_alloc _ _ _ (by omega)).trans HM.out.1)
      have hrl2 := (hb2.block (w.heap.size + 1) (by simp; omega)).trans ((Below.heap_alloc _ _ _ (by omega)).trans HM.out.2.1)
      have H2 := Lib.hid (⟨hbx2, hrl2, hW2⟩ : _ ∧ _ ∧ Below w.heap.size w w2)
      clear hb2 hW2 hbx2 hrl2 hW1 hf q0 q1 q2 q3 q4 q5 q6 q7 q8
      generalize hx : withinE pn 2 8 = x at HR1
      clear hx
      go_wp2
      · have hne : (x != 0) = true := by assumption
        go_ret2
        exact NewPost.wrong 1 (by omega) HZ.out HR1.out hne H2.out.2.2
      · have heq : (x != 0) = false := by assumption
        go_roundw
        case rel => exact ⟨2, by omega, by go_num, Lib.hid (zero_succ HZ.out HR1.out heq), H2⟩
        case measure => simp [intOf]
    · have hf : wr.cell? ⟨w.heap.size + 1, 2, none⟩ = some (.func (.func 98) #[] #[]) := heap_cell hrl 2
      have hW1 : Below w.heap.size w (wr.alloc (.cells #[.func (.func 98) #[] #[]] 130)) := hbl.alloc (by omega) _
      have p2 := within_ok (HR1.out ▸ HZ.out 1 (by omega))
      clear hbx hrl hbl hk
      go_wp2_with fail
      refine (rule3_any nodes long miss good fresh pa sa ba ta pn pc sn sc bn bc tn tc ps _ (hs.below hW1) (HC.out.rp.below hW1) (by omega) (by omega)).mono ?_
      rintro e w2 ⟨rfl, hb2⟩
      have hW2 := hW1.trans (hb2.mono (by simp; omega))
      have hbx2 := (hb2.block w.heap.size (by simp; omega)).trans ((Below.heap_alloc _ _ _ (by omega)).trans HM.out.1)
      have hrl2 := (hb2.block (w.heap.size + 1) (by simp; omega)).trans ((Below.heap_alloc _ _ _ (by omega)).trans HM.out.2.1)
      have H2 := Lib.hid (⟨hbx2, hrl2, hW2⟩ : _ ∧ _ ∧ Below w.heap.size w w2)
      clear hb2 hW2 hbx2 hrl2 hW1 hf q0 q1 q2 q3 q4 q5 q6 q7 q8
      generalize hx : mustE (rule3B nodes ps) = x at HR2
      clear hx
      go_wp2
      · have hne : (x != 0) = true := by assumption
        go_ret2
        exact NewPost.wrong 2 (by omega) HZ.out HR2.out hne H2.out.2.2
      · have heq : (x != 0) = false := by assumption
        go_roundw
        case rel => exact ⟨3, by omega, by go_num, Lib.hid (zero_succ HZ.out HR2.out heq), H2⟩
        case measure => simp [intOf]
    · have hf : wr.cell? ⟨w.heap.size + 1, 3, none⟩ = some (.func (.func 103) #[] #[]) := heap_cell hrl 3
      have hW1 : Below w.heap.size w (wr.alloc (.cells #[.func (.func 103) #[] #[]] 130)) := hbl.alloc (by omega) _
      clear hbx hrl hbl hk
      go_wp2_with fail
      refine (rule4_any nodes long miss good fresh pa sa ba ta pn pc sn sc bn bc tn tc _).mono ?_
      rintro e w2 ⟨rfl, hb2⟩
      have hW2 := hW1.trans (hb2.mono (by simp; omega))
      have hbx2 := (hb2.block w.heap.size (by simp; omega)).trans ((Below.heap_alloc _ _ _ (by omega)).trans HM.out.1)
      have hrl2 := (hb2.block (w.heap.size + 1) (by simp; omega)).trans ((Below.heap_alloc _ _ _ (by omega)).trans HM.out.2.1)
      have H2 := Lib.hid (⟨hbx2, hrl2, hW2⟩ : _ ∧ _ ∧ Below w.heap.size w w2)
      clear hb2 hW2 hbx2 hrl2 hW1 hf q0 q1 q2 q3 q4 q5 q6 q7 q8
      generalize hx : withinE sn 1 16 = x at HR3
      clear hx
      go_wp2
      · have hne : (x != 0) = true := by assumption
        go_ret2
        exact NewPost.wrong 3 (by omega) HZ.out HR3.out hne H2.out.2.2
      · have heq : (x != 0) = false := by assumption
        go_roundw
        case rel => exact ⟨4, by omega, by go_num, Lib.hid (zero_succ HZ.out HR3.out heq), H2⟩
        case measure => simp [intOf]
    · have hf : wr.cell? ⟨w.heap.size + 1, 4, none⟩ = some (.func (.func 104) #[] #[]) := heap_cell hrl 4
      have hW1 : Below w.heap.size w (wr.alloc (.cells #[.func (.func 104) #[] #[]] 130)) := hbl.alloc (by omega) _
      have p2 := within_ok (HR1.out ▸ HZ.out 1 (by omega))
      clear hbx hrl hbl hk
      go_wp2_with fail
      refine (rule5_any nodes long miss good fresh pa sa ba ta pn pc sn sc bn bc tn tc ss _ (HC.out.rs.below hW1) (by omega)).mono ?_
      rintro e w2 ⟨rfl, hb2⟩
      have hW2 := hW1.trans (hb2.mono (by simp; omega))
      have hbx2 := (hb2.block w.heap.size (by simp; omega)).trans ((Below.heap_alloc _ _ _ (by omega)).trans HM.out.1)
      have hrl2 := (hb2.block (w.heap.size + 1) (by simp; omega)).trans ((Below.heap_alloc _ _ _ (by omega)).trans HM.out.2.1)
      have H2 := Lib.hid (⟨hbx2, hrl2, hW2⟩ : _ ∧ _ ∧ Below w.heap.size w w2)
      clear hb2 hW2 hbx2 hrl2 hW1 hf q0 q1 q2 q3 q4 q5 q6 q7 q8
      generalize hx : mustE (slotsB ss pn) = x at HR4
      clear hx
      go_wp2
      · have hne : (x != 0) = true := by assumption
        go_ret2
        exact NewPost.wrong 4 (by omega) HZ.out HR4.out hne H2.out.2.2
      · have heq : (x != 0) = false := by assumption
        go_roundw
        case rel => exact ⟨5, by omega, by go_num, Lib.hid (zero_succ HZ.out HR4.out heq), H2⟩
        case measure => simp [intOf]
    · have hf : wr.cell? ⟨w.heap.size + 1, 5, none⟩ = some (.func (.func 106) #[] #[]) := heap_cell hrl 5
      have hW1 : Below w.heap.size w (wr.alloc (.cells #[.func (.func 106) #[] #[]] 130)) := hbl.alloc (by omega) _
      have p1 := within_ok (HR0.out ▸ HZ.out 0 (by omega))
      clear hbx hrl hbl hk
      go_wp2_with fail
      refine (rule6_any nodes long miss good fresh pa sa ba ta pn pc sn sc bn bc tn tc _ (by omega) (by omega)).mono ?_
      rintro e w2 ⟨rfl, hb2⟩
      have hW2 := hW1.trans (hb2.mono (by simp; omega))
      have hbx2 := (hb2.block w.heap.size (by simp; omega)).trans ((Below.heap_alloc _ _ _ (by omega)).trans HM.out.1)
      have hrl2 := (hb2.block (w.heap.size + 1) (by simp; omega)).trans ((Below.heap_alloc _ _ _ (by omega)).trans HM.out.2.1)
      have H2 := Lib.hid (⟨hbx2, hrl2, hW2⟩ : _ ∧ _ ∧ Below w.heap.size w w2)
      clear hb2 hW2 hbx2 hrl2 hW1 hf q0 q1 q2 q3 q4 q5 q6 q7 q8
      generalize hx : withinE long (max (3 * nodes + 1) (nodes + 116)) 4096 = x at HR5
      clear hx
      go_wp2
      · have hne : (x != 0) = true := by assumption
        go_ret2
        exact NewPost.wrong 5 (by omega) HZ.out HR5.out hne H2.out.2.2
      · have heq : (x != 0) = false := by assumption
        go_roundw
        case rel => exact ⟨6, by omega, by go_num, Lib.hid (zero_succ HZ.out HR5.out heq), H2⟩
        case measure => simp [intOf]
    · have hf : wr.cell? ⟨w.heap.size + 1, 6, none⟩ = some (.func (.func 107) #[] #[]) := heap_cell hrl 6
      have hW1 : Below w.heap.size w (wr.alloc (.cells #[.func (.func 107) #[] #[]] 130)) := hbl.alloc (by omega) _
      clear hbx hrl hbl hk
      go_wp2_with fail
      refine (rule7_any nodes long miss good fresh pa sa ba ta pn pc sn sc bn bc tn tc bs _ (HC.out.rb.below hW1)).mono ?_
      rintro e w2 ⟨rfl, hb2⟩
      have hW2 := hW1.trans (hb2.mono (by simp; omega))
      have hbx2 := (hb2.block w.heap.size (by simp; omega)).trans ((Below.heap_alloc _ _ _ (by omega)).trans HM.out.1)
      have hrl2 := (hb2.block (w.heap.size + 1) (by simp; omega)).trans ((Below.heap_alloc _ _ _ (by omega)).trans HM.out.2.1)
      have H2 := Lib.hid (⟨hbx2, hrl2, hW2⟩ : _ ∧ _ ∧ Below w.heap.size w w2)
      clear hb2 hW2 hbx2 hrl2 hW1 hf q0 q1 q2 q3 q4 q5 q6 q7 q8
      generalize hx : firstE [mustE ((bn : Int) == nodes), eachE bs 0 4096] = x at HR6
      clear hx
      go_wp2
      · have hne : (x != 0) = true := by assumption
        go_ret2
        exact NewPost.wrong 6 (by omega) HZ.out HR6.out hne H2.out.2.2
      · have heq : (x != 0) = false := by assumption
        go_roundw
        case rel => exact ⟨7, by omega, by go_num, Lib.hid (zero_succ HZ.out HR6.out heq), H2⟩
        case measure => simp [intOf]
    · have hf : wr.cell? ⟨w.heap.size + 1, 7, none⟩ = some (.func (.func 110) #[] #[]) := heap_cell hrl 7
      have hW1 : Below w.heap.size w (wr.alloc (.cells #[.func (.func 110) #[] #[]] 130)) := hbl.alloc (by omega) _
      clear hbx hrl hbl hk
      go_wp2_with fail
      refine (rule8_any nodes long miss good fresh pa sa ba ta pn pc sn sc bn bc tn tc _).mono ?_
      rintro e w2 ⟨rfl, hb2⟩
      have hW2 := hW1.trans (hb2.mono (by simp; omega))
      have hbx2 := (hb2.block w.heap.size (by simp; omega)).trans ((Below.heap_alloc _ _ _ (by omega)).trans HM.out.1)
      have hrl2 := (hb2.block (w.heap.size + 1) (by simp; omega)).trans ((Below.heap_alloc _ _ _ (by omega)).trans HM.out.2.1)
      have H2 := Lib.hid (⟨hbx2, hrl2, hW2⟩ : _ ∧ _ ∧ Below w.heap.size w w2)
      clear hb2 hW2 hbx2 hrl2 hW1 hf q0 q1 q2 q3 q4 q5 q6 q7 q8
      generalize hx : withinE tn 0 8 = x at HR7
      clear hx
      go_wp2
      · have hne : (x != 0) = true := by assumption
        go_ret2
        exact NewPost.wrong 7 (by omega) HZ.out HR7.out hne H2.out.2.2
      · have heq : (x != 0) = false := by assumption
        go_roundw
        case rel => exact ⟨8, by omega, by go_num, Lib.hid (zero_succ HZ.out HR7.out heq), H2⟩
        case measure => simp [intOf]
    · have hf : wr.cell? ⟨w.heap.size + 1, 8, none⟩ = some (.func (.func 111) #[] #[]) := heap_cell hrl 8
      have hW1 : Below w.heap.size w (wr.alloc (.cells #[.func (.func 111) #[] #[]] 130)) := hbl.alloc (by omega) _
      clear hbx hrl hbl hk
      go_wp2_with fail
      refine (rule9_any nodes long miss good fresh pa sa ba ta pn pc sn sc bn bc tn tc ts _ (HC.out.rt.below hW1)).mono ?_
      rintro e w2 ⟨rfl, hb2⟩
      have hW2 := hW1.trans (hb2.mono (by simp; omega))
      have hbx2 := (hb2.block w.heap.size (by simp; omega)).trans ((Below.heap_alloc _ _ _ (by omega)).trans HM.out.1)
      have hrl2 := (hb2.block (w.heap.size + 1) (by simp; omega)).trans ((Below.heap_alloc _ _ _ (by omega)).trans HM.out.2.1)
      have H2 := Lib.hid (⟨hbx2, hrl2, hW2⟩ : _ ∧ _ ∧ Below w.heap.size w w2)
      clear hb2 hW2 hbx2 hrl2 hW1 hf q0 q1 q2 q3 q4 q5 q6 q7 q8
      generalize hx : stationsE nodes ts = x at HR8
      clear hx
      go_wp2
      · have hne : (x != 0) = true := by assumption
        go_ret2
        exact NewPost.wrong 8 (by omega) HZ.out HR8.out hne H2.out.2.2
      · have heq : (x != 0) = false := by assumption
        go_roundw
        case rel => exact ⟨9, by omega, by go_num, Lib.hid (zero_succ HZ.out HR8.out heq), H2⟩
        case measure => simp [intOf]
    · have hf : wr.cell? ⟨w.heap.size + 1, 9, none⟩ = some (.func (.func 112) #[] #[]) := heap_cell hrl 9
      have hW1 : Below w.heap.size w (wr.alloc (.cells #[.func (.func 112) #[] #[]] 130)) := hbl.alloc (by omega) _
      clear hbx hrl hbl hk
      go_wp2_with fail
      refine (rule10_any nodes long miss good fresh pa sa ba ta pn pc sn sc bn bc tn tc _).mono ?_
      rintro e w2 ⟨rfl, hb2⟩
      have hW2 := hW1.trans (hb2.mono (by simp; omega))
      have hbx2 := (hb2.block w.heap.size (by simp; omega)).trans ((Below.heap_alloc _ _ _ (by omega)).trans HM.out.1)
      have hrl2 := (hb2.block (w.heap.size + 1) (by simp; omega)).trans ((Below.heap_alloc _ _ _ (by omega)).trans HM.out.2.1)
      have H2 := Lib.hid (⟨hbx2, hrl2, hW2⟩ : _ ∧ _ ∧ Below w.heap.size w w2)
      clear hb2 hW2 hbx2 hrl2 hW1 hf q0 q1 q2 q3 q4 q5 q6 q7 q8
      generalize hx : eachE [miss, good, fresh] 1 100 = x at HR9
      clear hx
      go_wp2
      · have hne : (x != 0) = true := by assumption
        go_ret2
        exact NewPost.wrong 9 (by omega) HZ.out HR9.out hne H2.out.2.2
      · have heq : (x != 0) = false := by assumption
        go_roundw
        case rel => exact ⟨10, by omega, by go_num, Lib.hid (zero_succ HZ.out HR9.out heq), H2⟩
        case measure => simp [intOf]
    · have p1 := within_ok (HR0.out ▸ HZ.out 0 (by omega))
      have p2 := within_ok (HR1.out ▸ HZ.out 1 (by omega))
      have p3 := must_ok (HR2.out ▸ HZ.out 2 (by omega))
      have p4 := within_ok (HR3.out ▸ HZ.out 3 (by omega))
      have p7 := HR6.out ▸ HZ.out 6 (by omega)
      have p8 := within_ok (HR7.out ▸ HZ.out 7 (by omega))
      have hbn : bn ≤ 16 := by
        have : mustE ((bn : Int) == nodes) = 0 := by
          by_cases e : mustE ((bn : Int) == nodes) = 0
          · exact e
          · unfold firstE at p7; rw [if_neg e] at p7; exact absurd p7 e
        have := must_ok this
        simp at this
        omega
      obtain ⟨n, hn⟩ : ∃ n : Nat, nodes = n := ⟨nodes.toNat, by omega⟩
      subst hn
      have HP := Lib.hid (⟨p1, p2, p3, p4, hbn, p8⟩ : _ ∧ _ ∧ _ ∧ _ ∧ bn ≤ 16 ∧ _)
      have hn1 : 1 ≤ n := by omega
      have hn2 : n ≤ 1000 := by omega
      have lpn : pn ≤ 1000000 := by omega
      have lsn : sn ≤ 1000000 := by omega
      have lbn : bn ≤ 1000000 := by omega
      have ltn : tn ≤ 1000000 := by omega
      clear hrl p1 p2 p3 p4 p7 p8 hbn
      go_wp2
      go_region_held3 (fun W => W.cell? ⟨w.heap.size, 0, none⟩ = some (.int .i64 n) ∧ W.cell? ⟨w.heap.size, 1, none⟩ = some (.slice pa pn pc) ∧ W.cell? ⟨w.heap.size, 2, none⟩ = some (.slice sa sn sc) ∧ W.cell? ⟨w.heap.size, 3, none⟩ = some (.int .i64 long) ∧ W.cell? ⟨w.heap.size, 4, none⟩ = some (.slice ba bn bc) ∧ W.cell? ⟨w.heap.size, 5, none⟩ = some (.slice ta tn tc) ∧ W.cell? ⟨w.heap.size, 6, none⟩ = some (.int .i64 miss) ∧ W.cell? ⟨w.heap.size, 7, none⟩ = some (.int .i64 good) ∧ W.cell? ⟨w.heap.size, 8, none⟩ = some (.int .i64 fresh)) (refine ⟨?_, ?_, ?_, ?_, ?_, ?_, ?_, ?_, ?_⟩ <;> first | (go_keep; done) | fail)
        (first | (go_at_call 68; refine (own_box HCC.out HC.out (g := w.heap.size) ?_ ?_ ?_ ?_ ?_ ?_).mono ?_ ; (first | exact hbl.drew | exact (hbl.alloc (by omega) _).drew | fail); (first | exact hbx | exact (Below.heap_alloc _ _ _ (by omega)).trans hbx | fail); (exact lpn); (exact lsn); (exact lbn); (exact ltn); rintro e w1 ⟨ap, as_, ab, at_, rfl, k0, k1, k2, k3, k4, k5, k6, k7, k8, HO⟩) | (go_at_call 69; have hXW : Below w1.heap.size w1 (w1.alloc (.cells #[.int .i64 (-1)] 3)) := (Below.refl w1.heap.size w1).alloc (Nat.le_refl _) _; refine (repeat_any _ (-1) n (w1.alloc (.cells #[.int .i64 (-1)] 3)) (by simp [go_sem]) hn1 hn2).mono ?_; rintro e w2 ⟨rfl, hq, hqs, hb2⟩; (first | (have HT := Lib.hid (ready_of hlt0 hbl.drew (by simp) HO.out hXW hb2 hq hqs)) | (have HT := Lib.hid (ready_of hlt0 (hbl.alloc (by omega) _).drew (by simp) HO.out hXW hb2 hq hqs)) | fail); have z0 := cell_on hXW hb2 0 _ k0; have z1 := cell_on hXW hb2 1 _ k1; have z2 := cell_on hXW hb2 2 _ k2; have z3 := cell_on hXW hb2 3 _ k3; have z4 := cell_on hXW hb2 4 _ k4; have z5 := cell_on hXW hb2 5 _ k5; have z6 := cell_on hXW hb2 6 _ k6; have z7 := cell_on hXW hb2 7 _ k7; have z8 := cell_on hXW hb2 8 _ k8; clear hXW hq hqs hb2 k0 k1 k2 k3 k4 k5 k6 k7 k8; generalize (w1.alloc (.cells #[.int .i64 (-1)] 3)).heap.size = q at HT ⊢) | (go_at_call 69; have hXW : Below w1.heap.size w1 (w1) := Below.refl _ _; refine (repeat_any _ (-1) n (w1) ((HO.out.2.cell (by simp)).trans (by simp [go_sem])) hn1 hn2).mono ?_; rintro e w2 ⟨rfl, hq, hqs, hb2⟩; (first | (have HT := Lib.hid (ready_of hlt0 hbl.drew (by simp) HO.out hXW hb2 hq hqs)) | (have HT := Lib.hid (ready_of hlt0 (hbl.alloc (by omega) _).drew (by simp) HO.out hXW hb2 hq hqs)) | fail); have z0 := cell_on hXW hb2 0 _ k0; have z1 := cell_on hXW hb2 1 _ k1; have z2 := cell_on hXW hb2 2 _ k2; have z3 := cell_on hXW hb2 3 _ k3; have z4 := cell_on hXW hb2 4 _ k4; have z5 := cell_on hXW hb2 5 _ k5; have z6 := cell_on hXW hb2 6 _ k6; have z7 := cell_on hXW hb2 7 _ k7; have z8 := cell_on hXW hb2 8 _ k8; clear hXW hq hqs hb2 k0 k1 k2 k3 k4 k5 k6 k7 k8; generalize (w1).heap.size = q at HT ⊢) | fail)
      all_goals
        clear q0 q1 q2 q3 q4 q5 q6 q7 q8 HO
        have h2lt : w.heap.size < w2.heap.size := World.block_lt_of_cell? w2 _ z0
        obtain ⟨lo, hi, r1, r2, r3, r4, r5, r6⟩ := HT.out
        have hs3 : Signs (w2.alloc (.cells #[.int .i64 n, .slice ap pn pn, .slice as_ sn sn, .int .i64 long, .slice ab bn bn, .slice at_ tn tn, .int .i64 miss, .int .i64 good, .int .i64 fresh, .slice (some ⟨q, 0, none⟩) n n] 56)) := hs.below (r6.alloc (by omega) _)
        have hp3 : Reads (w2.alloc (.cells #[.int .i64 n, .slice ap pn pn, .slice as_ sn sn, .int .i64 long, .slice ab bn bn, .slice at_ tn tn, .int .i64 miss, .int .i64 good, .int .i64 fresh, .slice (some ⟨q, 0, none⟩) n n] 56)) eI pa pn ps := HC.out.rp.below (r6.alloc (by omega) _)
        clear r1 r2 r3 r4 r5 r6
        go_wp2_with fail
        refine (halves_any _ _ _ _ _ _ _ _ _ _ _ ps _ hs3 hp3 lpn).mono ?_
        rintro e w4 ⟨v, rfl, ho, hb4⟩
        obtain ⟨g, cap, rfl, hg, hzl, hzc⟩ := halves_slice ho (by have := HP.out; omega)
        have hN4 := (hb4.block w2.heap.size (by simp)).trans (heap_new _ _ _ rfl)
        have hs4 := hb4.size
        simp only [World.size_alloc] at hb4 hs4 hg
        have HW := Lib.hid (⟨hb4, hN4, hs4, hg, hzl, hzc⟩ : _ ∧ _ ∧ _ ∧ _ ∧ _ ∧ _)
        have HX := Lib.hid (halves_in HP.out.1.1 HP.out.1.2 (ps := ps) (by have := HP.out.2.2.1; unfold rule3B at this; simp only [Bool.and_eq_true] at this; exact this.1.1))
        have hpn1 : 1 ≤ pn := by have := HP.out; omega
        clear ho hs3 hp3 hb4 hN4 hs4 hg hzl hzc z0 z1 z2 z3 z4 z5 z6 z7 z8
        go_wp2
        go_loopw [8, 9, 35] (fun _ _ i wr => ∃ k : Nat, k ≤ 2 * pn ∧ i = .int .i64 k ∧ Hid (Pairing w4 wr q n k (halvesL n ps))) (fun _ _ i _ => 2 * pn - (intOf i).toNat)
        case atStart =>
          refine ⟨0, by omega, by go_num, Lib.hid ⟨?_, fun _ _ => rfl, rfl, Below.refl _ _⟩⟩
          obtain ⟨lo, hi, r1, r2, r3, r4, r5, r6⟩ := HT.out
          rw [HW.out.1.block q (by omega), Below.heap_alloc _ _ _ r3, r5]
          simp [pairsUp]
        case round =>
          obtain ⟨k, hk, rfl, HR⟩ := hrel
          by_cases hlt : k < 2 * pn
          · obtain ⟨x, hx⟩ : ∃ x, (halvesL n ps)[k]? = some x := ⟨_, List.getElem?_eq_getElem (by have := HW.out.2.2.2.2.1; omega)⟩
            have hx2 := HX.out x (List.mem_of_getElem? hx)
            obtain ⟨y, rfl⟩ : ∃ y : Nat, x = y := ⟨x.toNat, by omega⟩
            have hy : y < n := by omega
            have hqg : g ≠ q := by
              obtain ⟨lo, hi, r1, r2, r3, r4, r5, r6⟩ := HT.out
              have := HW.out.2.2.2.1
              omega
            have hqb : w2.heap.size ≠ q := by
              obtain ⟨lo, hi, r1, r2, r3, r4, r5, r6⟩ := HT.out
              omega
            have hv : wr.cell? ⟨g, k, none⟩ = some (.int .i64 y) := by
              rw [cell_of_block (HR.out.rest g hqg)]
              exact HW.out.2.2.2.2.2 k _ hx
            have hpq : wr.cell? ⟨w2.heap.size, 9, none⟩ = some (.slice (some ⟨q, 0, none⟩) n n) := by
              rw [cell_of_block (HR.out.rest _ hqb)]
              exact heap_cell HW.out.2.1 9
            obtain ⟨⟨v0, hv0⟩, hf0⟩ := HR.out.cells y hy
            have HN := Lib.hid (HR.out.step y hx)
            clear hx hx2 hqg hqb
            go_wp2
            go_roundw
            case rel => exact ⟨k + 1, by omega, by go_num, HN⟩
            case measure => simp [intOf]; omega
          · go_wp2
            have ek : k = 2 * pn := by omega
            subst ek
            go_ret2
            exact NewPost.made HZ.out HCC.out HC.out HT.out HW.out.1 HW.out.2.1 HW.out.2.2.1 HR.out
end Go.Proofs.YtibncdkekceokaaDoor

/- A net's methods that only read. -/
namespace Go.Proofs.YtibncdkekceokaaDoor
open Go.RowKit

/-- A net in memory: its ten cells, and what its lists hold. -/
structure NetV (w : World) (b : Nat) (c : Cfg) (qs : List Int) (pa sa ba ta qa : Option Addr) : Prop where
  c0 : w.cell? ⟨b, 0, none⟩ = some (.int .i64 c.nodes)
  c1 : w.cell? ⟨b, 1, none⟩ = some (.slice pa c.ps.length c.ps.length)
  c2 : w.cell? ⟨b, 2, none⟩ = some (.slice sa c.ss.length c.ss.length)
  c3 : w.cell? ⟨b, 3, none⟩ = some (.int .i64 c.long)
  c4 : w.cell? ⟨b, 4, none⟩ = some (.slice ba c.bs.length c.bs.length)
  c5 : w.cell? ⟨b, 5, none⟩ = some (.slice ta c.ts.length c.ts.length)
  c6 : w.cell? ⟨b, 6, none⟩ = some (.int .i64 c.miss)
  c7 : w.cell? ⟨b, 7, none⟩ = some (.int .i64 c.good)
  c8 : w.cell? ⟨b, 8, none⟩ = some (.int .i64 c.fresh)
  c9 : w.cell? ⟨b, 9, none⟩ = some (.slice qa qs.length qs.length)
  rp : Reads w eI pa c.ps.length c.ps
  rs : Reads w eI sa c.ss.length c.ss
  rb : Reads w eI ba c.bs.length c.bs
  rt : ReadsSt w ta c.ts.length c.ts
  rq : Reads w eI qa qs.length qs
  op : SliceOK pa c.ps.length c.ps.length
  os : SliceOK sa c.ss.length c.ss.length
  ob : SliceOK ba c.bs.length c.bs.length
  ot : SliceOK ta c.ts.length c.ts.length
/-- A pointer to a net, or to none. -/
def NetP (w : World) (p : Option Addr) (c : Cfg) (qs : List Int) : Prop :=
  (p = none ∧ qs = []) ∨ ∃ b pa sa ba ta qa, p = some ⟨b, 0, none⟩ ∧ NetV w b c qs pa sa ba ta qa
theorem NetV.below {w w' : World} {b : Nat} {c : Cfg} {qs : List Int} {pa sa ba ta qa : Option Addr} (h : NetV w b c qs pa sa ba ta qa) (hb : Below w.heap.size w w') : NetV w' b c qs pa sa ba ta qa := by
  have hlt : b < w.heap.size := World.block_lt_of_cell? w _ h.c0
  have k : ∀ i v, w.cell? ⟨b, i, none⟩ = some v → w'.cell? ⟨b, i, none⟩ = some v := fun i v hv => (hb.cell (p := ⟨b, i, none⟩) hlt).trans hv
  exact ⟨k _ _ h.c0, k _ _ h.c1, k _ _ h.c2, k _ _ h.c3, k _ _ h.c4, k _ _ h.c5, k _ _ h.c6, k _ _ h.c7, k _ _ h.c8, k _ _ h.c9, h.rp.below hb, h.rs.below hb, h.rb.below hb, h.rt.below hb, h.rq.below hb, h.op, h.os, h.ob, h.ot⟩
theorem NetV.drawn {w : World} {b : Nat} {c : Cfg} {qs : List Int} {pa sa ba ta qa : Option Addr} (h : NetV w b c qs pa sa ba ta qa) (k : Nat) : NetV (w.drewN k) b c qs pa sa ba ta qa := h.below (below_drawn w k)
theorem NetP.below {w w' : World} {p : Option Addr} {c : Cfg} {qs : List Int} (h : NetP w p c qs) (hb : Below w.heap.size w w') : NetP w' p c qs := by
  rcases h with h | ⟨b, pa, sa, ba, ta, qa, hp, hv⟩
  · exact .inl h
  · exact .inr ⟨b, pa, sa, ba, ta, qa, hp, hv.below hb⟩
theorem NetP.drawn {w : World} {p : Option Addr} {c : Cfg} {qs : List Int} (h : NetP w p c qs) (k : Nat) : NetP (w.drewN k) p c qs := h.below (below_drawn w k)

/-- A list's value at a place, or -1. -/
def atL (l : List Int) (i : Int) : Int := if 0 ≤ i ∧ i < l.length then l.getD i.toNat 0 else -1
theorem at_any (a : Option Addr) (n cap : Nat) (l : List Int) (i : Int) (w : World) (hr : Reads w eI a n l) :
    Calls Tryd.prog 78 #[.slice a n cap, .int .i64 i] w fun e w' => e = .returned (.int .i64 (atL l i)) ∧ w = w' := by
  have hl := hr.len
  by_cases h1 : i < 0
  · go_enter Tryd.func78, Tryd.ntmps78
    go_wp2
    go_ret
    refine ⟨ret_int ?_, rfl⟩
    simp [atL]; omega
  · by_cases h2 : i < n
    · obtain ⟨k, rfl⟩ : ∃ k : Nat, i = k := ⟨i.toNat, by omega⟩
      have hk : k < n := by omega
      obtain ⟨b, off, rfl, hc⟩ := hr.cells k hk
      have e : atL l k = l[k]'(by omega) := by
        unfold atL
        rw [if_pos (by omega), List.getD_eq_getElem?_getD]
        simp [List.getElem?_eq_getElem (show k < l.length by omega)]
      rw [e]
      generalize l[k]'(by omega) = x at hc
      clear e
      go_enter Tryd.func78, Tryd.ntmps78
      go_wp2
      go_ret
      exact ⟨rfl, rfl⟩
    · go_enter Tryd.func78, Tryd.ntmps78
      go_wp2
      go_ret
      refine ⟨ret_int ?_, rfl⟩
      simp [atL]; omega

theorem there_any (p : Option Addr) (c : Cfg) (qs : List Int) (w : World) (h : NetP w p c qs) :
    Calls Tryd.prog 77 #[.pointer p] w fun e w' => e = .returned (.bool (decide (0 < qs.length))) ∧ w = w' := by
  rcases h with ⟨rfl, rfl⟩ | ⟨b, pa, sa, ba, ta, qa, rfl, hv⟩
  · go_enter Tryd.func77, Tryd.ntmps77
    go_wp2
    go_ret
    exact ⟨rfl, rfl⟩
  · have c9 := hv.c9
    go_enter Tryd.func77, Tryd.ntmps77
    go_wp2
    go_ret
    refine ⟨ret_bool ?_, rfl⟩
    simp

/-- What a net answers from one of its lists. -/
def fromL (qs l : List Int) (i : Int) : Int := if 0 < qs.length then atL l i else -1
theorem netfirst_any (p : Option Addr) (c : Cfg) (qs : List Int) (i : Int) (w : World) (h : NetP w p c qs) :
    Calls Tryd.prog 38 #[.pointer p, .int .i64 i] w fun e w' => e = .returned (.int .i64 (fromL qs c.ps i)) ∧ w = w' := by
  have hth := there_any p c qs w h
  by_cases hq : 0 < qs.length
  · rw [decide_eq_true hq] at hth
    have e : fromL qs c.ps i = atL c.ps i := if_pos hq
    rw [e]
    rcases h with ⟨_, rfl⟩ | ⟨b, pa, sa, ba, ta, qa, rfl, hv⟩
    · exact absurd hq (by simp)
    · have c1 := hv.c1
      go_enter Tryd.func38, Tryd.ntmps38
      go_wp2_with (first | (go_at_call 77; refine (hth).mono ?_; rintro e w' ⟨rfl, rfl⟩) | (go_at_call 78; refine (at_any _ _ _ _ _ _ hv.rp).mono ?_; rintro e w' ⟨rfl, rfl⟩) | fail)
      go_ret
      exact ⟨rfl, rfl⟩
  · rw [decide_eq_false hq] at hth
    have e : fromL qs c.ps i = -1 := if_neg hq
    rw [e]
    go_enter Tryd.func38, Tryd.ntmps38
    go_wp2_with (first | (go_at_call 77; refine (hth).mono ?_; rintro e w' ⟨rfl, rfl⟩) | fail)
    go_ret
    exact ⟨rfl, rfl⟩

theorem owner_any (p : Option Addr) (c : Cfg) (qs : List Int) (i : Int) (w : World) (h : NetP w p c qs) :
    Calls Tryd.prog 37 #[.pointer p, .int .i64 i] w fun e w' => e = .returned (.int .i64 (fromL qs c.ss i)) ∧ w = w' := by
  have hth := there_any p c qs w h
  by_cases hq : 0 < qs.length
  · rw [decide_eq_true hq] at hth
    have e : fromL qs c.ss i = atL c.ss i := if_pos hq
    rw [e]
    rcases h with ⟨_, rfl⟩ | ⟨b, pa, sa, ba, ta, qa, rfl, hv⟩
    · exact absurd hq (by simp)
    · have c2 := hv.c2
      go_enter Tryd.func37, Tryd.ntmps37
      go_wp2_with (first | (go_at_call 77; refine (hth).mono ?_; rintro e w' ⟨rfl, rfl⟩) | (go_at_call 78; refine (at_any _ _ _ _ _ _ hv.rs).mono ?_; rintro e w' ⟨rfl, rfl⟩) | fail)
      go_ret
      exact ⟨rfl, rfl⟩
  · rw [decide_eq_false hq] at hth
    have e : fromL qs c.ss i = -1 := if_neg hq
    rw [e]
    go_enter Tryd.func37, Tryd.ntmps37
    go_wp2_with (first | (go_at_call 77; refine (hth).mono ?_; rintro e w' ⟨rfl, rfl⟩) | fail)
    go_ret
    exact ⟨rfl, rfl⟩

theorem pair_any (p : Option Addr) (c : Cfg) (qs : List Int) (i : Int) (w : World) (h : NetP w p c qs) :
    Calls Tryd.prog 39 #[.pointer p, .int .i64 i] w fun e w' => e = .returned (.int .i64 (fromL qs qs i)) ∧ w = w' := by
  have hth := there_any p c qs w h
  by_cases hq : 0 < qs.length
  · rw [decide_eq_true hq] at hth
    have e : fromL qs qs i = atL qs i := if_pos hq
    rw [e]
    rcases h with ⟨_, rfl⟩ | ⟨b, pa, sa, ba, ta, qa, rfl, hv⟩
    · exact absurd hq (by simp)
    · have c9 := hv.c9
      go_enter Tryd.func39, Tryd.ntmps39
      go_wp2_with (first | (go_at_call 77; refine (hth).mono ?_; rintro e w' ⟨rfl, rfl⟩) | (go_at_call 78; refine (at_any _ _ _ _ _ _ hv.rq).mono ?_; rintro e w' ⟨rfl, rfl⟩) | fail)
      go_ret
      exact ⟨rfl, rfl⟩
  · rw [decide_eq_false hq] at hth
    have e : fromL qs qs i = -1 := if_neg hq
    rw [e]
    go_enter Tryd.func39, Tryd.ntmps39
    go_wp2_with (first | (go_at_call 77; refine (hth).mono ?_; rintro e w' ⟨rfl, rfl⟩) | fail)
    go_ret
    exact ⟨rfl, rfl⟩

end Go.Proofs.YtibncdkekceokaaDoor

/- What a net that New made reads as; the plain example. -/
namespace Go.Proofs.YtibncdkekceokaaDoor
open Go.RowKit

theorem firstE_all : ∀ l : List Int, firstE l = 0 → ∀ x ∈ l, x = 0
  | [], _, x, hx => by cases hx
  | y :: r, h, x, hx => by
    unfold firstE at h
    by_cases e : y = 0
    · rw [if_pos e] at h
      rcases List.mem_cons.1 hx with rfl | hx
      · exact e
      · exact firstE_all r h x hx
    · rw [if_neg e] at h
      exact absurd h e
theorem Cfg.rules_ok {c : Cfg} (h : c.err = 0) (k : Nat) (hk : k < 10) : c.rule k = 0 :=
  firstE_all _ h _ (List.mem_map.2 ⟨k, List.mem_range.2 hk, rfl⟩)
theorem eachE_all {lo hi : Int} : ∀ l : List Int, eachE l lo hi = 0 → ∀ x ∈ l, lo ≤ x ∧ x ≤ hi
  | [], _, x, hx => by cases hx
  | y :: r, h, x, hx => by
    unfold eachE at h
    by_cases e : withinE y lo hi = 0
    · rw [if_pos e] at h
      rcases List.mem_cons.1 hx with rfl | hx
      · exact within_ok e
      · exact eachE_all r h x hx
    · rw [if_neg e] at h
      exact absurd h e
/-- What stands in a config that may be. -/
structure CfgOK (c : Cfg) : Prop where
  n4 : 4 ≤ c.nodes
  n16 : c.nodes ≤ 16
  p2 : 2 ≤ c.ps.length
  p8 : c.ps.length ≤ 8
  pin : ∀ x ∈ c.ps, 0 ≤ x ∧ x < c.nodes
  psort : c.ps.Pairwise (· ≤ ·)
  halves : (halvesL c.nodes c.ps).Nodup
  s1 : 1 ≤ c.ss.length
  s16 : c.ss.length ≤ 16
  sin : ∀ x ∈ c.ss, 0 ≤ x ∧ x < c.ps.length
  sall : ∀ p : Nat, p < c.ps.length → (p : Int) ∈ c.ss
  l1 : max (3 * c.nodes + 1) (c.nodes + 116) ≤ c.long
  l2 : c.long ≤ 4096
  bl : (c.bs.length : Int) = c.nodes
  bin : ∀ x ∈ c.bs, 0 ≤ x ∧ x ≤ 4096
  t8 : c.ts.length ≤ 8
  m1 : 1 ≤ c.miss ∧ c.miss ≤ 100
  g1 : 1 ≤ c.good ∧ c.good ≤ 100
  f1 : 1 ≤ c.fresh ∧ c.fresh ≤ 100
theorem Cfg.ok {c : Cfg} (h : c.err = 0) : CfgOK c := by
  have r0 := within_ok (c.rules_ok h 0 (by omega))
  have r1 := within_ok (c.rules_ok h 1 (by omega))
  have r2 := must_ok (c.rules_ok h 2 (by omega))
  have r3 := within_ok (c.rules_ok h 3 (by omega))
  have r4 := must_ok (c.rules_ok h 4 (by omega))
  have r5 := within_ok (c.rules_ok h 5 (by omega))
  have r6 := firstE_all _ (c.rules_ok h 6 (by omega))
  have r7 := within_ok (c.rules_ok h 7 (by omega))
  have r9 := eachE_all _ (c.rules_ok h 9 (by omega))
  have b1 := must_ok (r6 (mustE ((c.bs.length : Int) == c.nodes)) (by simp))
  have b2 := eachE_all _ (r6 (eachE c.bs 0 4096) (by simp))
  simp only [rule3B, Bool.and_eq_true] at r2
  simp only [slotsB, Bool.and_eq_true] at r4
  exact ⟨r0.1, r0.2, by omega, by omega, of_decide_eq_true r2.1.1, of_decide_eq_true r2.1.2, of_decide_eq_true r2.2, by omega, by omega, of_decide_eq_true r4.1, of_decide_eq_true r4.2, r5.1, r5.2, by simpa using b1, b2, by omega, r9 _ (by simp), r9 _ (by simp), r9 _ (by simp)⟩

theorem OwnV.reads {w : World} {lo n : Nat} {v : Value} {xs : List Int} (h : OwnV w lo 3 1 v n (xs.map eI)) (hn : xs.length = n) (hs : n ≤ 9223372036854775807) : ∃ a, v = .slice a n n ∧ SliceOK a n n ∧ Reads w eI a n xs := by
  obtain ⟨a, rfl, hok⟩ := h.value
  refine ⟨a, rfl, hok, hn, hs, fun i hi => ?_⟩
  rcases h with ⟨hv, h0, _⟩ | ⟨g, cur, hv, _, hg, _, h2, h3⟩
  · omega
  · simp only [Value.slice.injEq, and_true] at hv
    subst hv
    refine ⟨g, 0, rfl, ?_⟩
    rw [heap_cell hg, Nat.zero_add, ← Array.getElem?_toList]
    have e : (cur.toList.take (n * 1))[i]? = some (eI (xs[i]'(by omega))) := by rw [h3]; simp [hn, hi]
    rw [List.getElem?_take, if_pos (by omega)] at e
    exact e
theorem OwnV.readsSt {w : World} {lo n : Nat} {v : Value} {xs : List (Int × Int × Int)} (h : OwnV w lo 53 3 v n (xs.flatMap eSt)) (hn : xs.length = n) (hs : n ≤ 9223372036854775807) : ∃ a, v = .slice a n n ∧ SliceOK a n n ∧ ReadsSt w a n xs := by
  obtain ⟨a, rfl, hok⟩ := h.value
  refine ⟨a, rfl, hok, hn, hs, fun i hi => ?_⟩
  rcases h with ⟨hv, h0, _⟩ | ⟨g, cur, hv, _, hg, _, h2, h3⟩
  · omega
  · simp only [Value.slice.injEq, and_true] at hv
    subst hv
    have key : ∀ k, k < 3 → w.cell? ⟨g, 0 + i * 3 + k, none⟩ = (eSt (xs[i]'(by omega)))[k]? := fun k hk => by
      rw [heap_cell hg, Nat.zero_add, ← Array.getElem?_toList]
      have e : (cur.toList.take (n * 3))[i * 3 + k]? = (xs.flatMap eSt)[i * 3 + k]? := by rw [h3]
      rw [List.getElem?_take, if_pos (by omega), flat3_get] at e
      rw [e, show (i * 3 + k) / 3 = i by omega, show (i * 3 + k) % 3 = k by omega, List.getElem?_eq_getElem (by omega)]
      rfl
    exact ⟨g, 0, rfl, key 0 (by omega), key 1 (by omega), key 2 (by omega)⟩
theorem Cfg.pairs_length (c : Cfg) : c.pairs.length = c.nodes.toNat := by unfold Cfg.pairs; exact pairsUp_length _ _ _
/-- What New made reads as the net of its config. -/
theorem NetAt.view {w : World} {lo hi b : Nat} {c : Cfg} (h : NetAt w lo hi b c) (hc : CfgOK c) : ∃ pa sa ba ta qa, NetV w b c c.pairs pa sa ba ta qa := by
  obtain ⟨pv, sv, bv, tv, qv, hb, _, _, _, hp, hs, hbb, ht, hq⟩ := h
  have n16 := hc.n16
  have n4 := hc.n4
  have p8 := hc.p8
  have s16 := hc.s16
  have t8 := hc.t8
  have bl := hc.bl
  obtain ⟨pa, rfl, op, rp⟩ := hp.1.reads rfl (by omega)
  obtain ⟨sa, rfl, os, rs⟩ := hs.1.reads rfl (by omega)
  obtain ⟨ba, rfl, ob, rb⟩ := hbb.1.reads rfl (by omega)
  obtain ⟨ta, rfl, ot, rt⟩ := ht.1.readsSt rfl (by omega)
  have hl := c.pairs_length
  rw [← hl] at hq
  obtain ⟨qa, rfl, _, rq⟩ := hq.1.reads rfl (by omega)
  exact ⟨pa, sa, ba, ta, qa, heap_cell hb 0, heap_cell hb 1, heap_cell hb 2, heap_cell hb 3, heap_cell hb 4, heap_cell hb 5, heap_cell hb 6, heap_cell hb 7, heap_cell hb 8, heap_cell hb 9, rp, rs, rb, rt, rq, op, os, ob, ot⟩
theorem NetAt.ptr {w : World} {lo hi b : Nat} {c : Cfg} (h : NetAt w lo hi b c) (hc : CfgOK c) : NetP w (some ⟨b, 0, none⟩) c c.pairs := by
  obtain ⟨pa, sa, ba, ta, qa, hv⟩ := h.view hc
  exact .inr ⟨b, pa, sa, ba, ta, qa, rfl, hv⟩

/-- The chapters' example. -/
def plainC : Cfg := ⟨4, 120, 3, 3, 3, [0, 2], [0, 1], [0, 0, 0, 0], []⟩
theorem plainC_err : plainC.err = 0 := by decide +kernel
end Go.Proofs.YtibncdkekceokaaDoor

/- Structs of many cells in a walk: loads, stores, pauses. -/
namespace Go.Proofs.YtibncdkekceokaaDoor
open Go.RowKit

/-- The walk pauses here. -/
def Paused (p : Prop) : Prop := p
theorem Paused.go {p : Prop} (h : Paused p) : p := h
theorem Paused.mk {p : Prop} (h : p) : Paused p := h
section
variable {P : Program} {ops : Array Oper} {rest : List Oper} {dst : Option Tmp} {ty ty' : TypeId} {x y : Operand} {pos : String} {after : Array Edge} {a : Act} {w : World} {Q : Exit → Act → World → Prop}
theorem wpList_load_at (g : Nat) {t : TypeId} {cs : Array Value} {fr : Nat × Nat} (hg : w.heap[g]? = some (.cells cs t fr)) (hx : a.eval x = .pointer (some ⟨g, 0, none⟩)) {d : TypeDesc}
    (hu : P.underlying ty = some d) (hd : (match d with | .struct _ | .array _ _ => true | _ => false) = true) (hi : (P.info? ty).map (·.size) = some cs.size)
    (h : Paused (wpList P ops Q rest (a.put dst (.agg cs)) w)) : wpList P ops Q ({ dst := dst, op := .load ty x, type := ty', pos := pos, after := after, guard := none } :: rest) a w :=
  wpList_load_row rfl ty x rfl g hx t cs fr d hg hu hd hi h
theorem wpList_load_on {gd : Nat × Bool} (hw : yielded ops a.tmps gd.1 = some gd.2) (g : Nat) {t : TypeId} {cs : Array Value} {fr : Nat × Nat} (hg : w.heap[g]? = some (.cells cs t fr)) (hx : a.eval x = .pointer (some ⟨g, 0, none⟩)) {d : TypeDesc}
    (hu : P.underlying ty = some d) (hd : (match d with | .struct _ | .array _ _ => true | _ => false) = true) (hi : (P.info? ty).map (·.size) = some cs.size)
    (h : Paused (wpList P ops Q rest (a.put dst (.agg cs)) w)) : wpList P ops Q ({ dst := dst, op := .load ty x, type := ty', pos := pos, after := after, guard := some gd } :: rest) a w := by
  simp only [wpList]
  rw [if_pos (by simp [Region.wanted, hw])]
  exact .inl (wp_load_row ty x rfl g hx t cs fr d hg hu hd hi h)
theorem wpList_store_new {old cells : Array Value} {t : TypeId} (g n : Nat) (hg : g = w.heap.size) (hx : a.eval x = .pointer (some ⟨g, 0, none⟩)) (hy : a.eval y = .agg cells) (hi : (P.info? ty).map (·.size) = some cells.size)
    (ho : old.size = n) (hn : cells.size = n) (h1 : cells.all (·.oneCell') = true)
    (h : ∀ w' : World, w'.heap[g]? = some (.cells cells t (0, 0)) → Below w.heap.size w w' → w'.heap.size = w.heap.size + 1 → Paused (wpList P ops Q rest (a.put dst undef) w')) :
    wpList P ops Q ({ dst := dst, op := .store ty x y, type := ty', pos := pos, after := after, guard := none } :: rest) a (w.alloc (.cells old t)) := by
  subst hg
  refine wpList_store_row rfl ty x y rfl w.heap.size cells hx hy t old (heap_new _ _ _ rfl) hi (by omega) h1 ?_
  rw [World.setRow_alloc_new]
  exact h _ (heap_new _ _ _ rfl) ((Below.refl w.heap.size w).alloc (Nat.le_refl _) _) (by simp)
end
end Go.Proofs.YtibncdkekceokaaDoor

/- The frame of a law's proof: nothing below the heap's old end has turned, so the arguments read as they did. -/
namespace Go.Proofs.YtibncdkekceokaaDoor
open Go.ChangeShapes Go.WideShapes Go.ChangeAt Go.WideMaps Go.WideElems Go.RowKit

theorem own : ownKnob Tryd.prog.godebug = none := by kernel_rfl
theorem laidOut : laidOutB Tryd.prog = true := by kernel_rfl
section
variable {H : Type} {enc : TypeId × Value → H} {P : Program}
theorem trodAll_stays (hl : laidOutB P = true) {W W' : World} (hb : Below W.heap.size W W') :
    ∀ {ts : List TypeId} {vs : List Value} {ds : List (DataW H)} {ps : List MemPlace}, (ts.all fun t => P.readableRec t && decide (t < P.types.size)) = true → DataW.TrodAll enc P W 0 (fun _ => true) true ts vs ds ps → (∀ x ∈ ps, x.block < W.heap.size) →
      DataW.TrodAll enc P W' 0 (fun b => decide (b < W.heap.size)) true ts vs ds ps
  | [], vs, ds, ps, _, h, _ => by
    obtain ⟨rfl, rfl, rfl⟩ := trodAll_nil h
    exact trodAll_mk0
  | t :: ts, vs, ds, ps, ht, h, hlt => by
    obtain ⟨v, vs', d, ds', p, q, rfl, rfl, rfl, h1, h2⟩ := trodAll_cons h
    simp only [List.all_cons, Bool.and_eq_true, decide_eq_true_eq] at ht
    exact trodAll_cons_mk (Below.trod hl ht.1.1 ht.1.2 h1 hb fun x hx => hlt x (by simp [hx]))
      (trodAll_stays hl hb (by simpa [List.all_eq_true] using ht.2) h2 fun x hx => hlt x (by simp [hx]))
/-- A law that answers true, and writes nothing that was there. -/
theorem post_true (hl : laidOutB P = true) {fn : Func} {s : ChangeSpec} {tb : TypeId} {W W' : World} {args : Array Value} {ds gs : List (DataW H)} {before : List MemPlace}
    (hts : (fn.params.toList.all fun t => P.readableRec t && decide (t < P.types.size)) = true) (hres : fn.resultTypes = #[tb]) (hu : P.underlying tb = some .bool) (hvars : s.vars = [])
    (hfr : (s.fn H (ds ++ gs)).results = [.lit (.bool true)]) (hfa : (s.fn H (ds ++ gs)).args = ds) (hfv : (s.fn H (ds ++ gs)).vars = [])
    (hW : DataW.Whole enc P fn.params.toList s.vars false W args.toList ds gs before) (hb : Below W.heap.size W W') : s.post enc P fn false true false false W args (.bool true) W' := by
  have hlt : ∀ x ∈ before, x.block < W.heap.size := fun x hx => by simpa using hW.lt x hx
  have hW' := hW
  obtain ⟨p, q, hA, hV, rfl, _, _⟩ := hW
  rw [hvars] at hV
  obtain ⟨rfl, rfl⟩ := trodVars_none hV
  refine ⟨ds, [], _, [], p, [], hW', ?_, ?_, ?_, hb.frame _, fun h => by cases h⟩
  · rw [hfr, hres]
    exact trodAll_mk1 (shut_bool hu _)
  · rw [hfa]
    exact trodAll_stays hl hb hts hA fun x hx => hlt x (by simp [hx])
  · rw [hvars, hfv]
    rfl
end
end Go.Proofs.YtibncdkekceokaaDoor

/- Arguments opened: a config, a view. -/
namespace Go.Proofs.YtibncdkekceokaaDoor
open Go.ChangeShapes Go.WideShapes Go.ChangeAt Go.WideMaps Go.WideElems Go.RowKit Go.Deep

theorem cfg_types : Tryd.prog.cellTypes Tryd.prog.depth 25 = some [3, 22, 22, 3, 22, 23, 3, 3, 3] := by kernel_rfl
theorem cells_int : Tryd.prog.cellsOf 3 = 1 := by kernel_rfl
theorem cells_ints : Tryd.prog.cellsOf 22 = 1 := by kernel_rfl
theorem cells_sts : Tryd.prog.cellsOf 23 = 1 := by kernel_rfl
theorem cells_st : Tryd.prog.cellsOf 53 = 3 := by kernel_rfl
theorem cells_u32 : Tryd.prog.cellsOf 51 = 1 := by kernel_rfl
theorem cells_cfg : Tryd.prog.cellsOf 25 = 9 := by kernel_rfl
/-- A slice's cell is a slice that stands at cells. -/
theorem cell_slice {P : Program} {w : World} {r : Reach} {base : Nat} {t e : TypeId} {v : Value} (hu : P.underlying t = some (.slice e)) (h : Cell.okWide P w r base t v) : ∃ a n cap, v = .slice a n cap ∧ SliceOK a n cap := by
  simp only [Cell.okWide, hu] at h
  unfold Cell.ok at h
  rw [hu] at h
  cases v with
  | slice a n cap =>
    refine ⟨a, n, cap, rfl, ?_⟩
    cases a with
    | none =>
      cases n with
      | zero =>
        cases cap with
        | zero => exact ⟨Nat.le_refl _, fun _ => ⟨rfl, rfl⟩, fun _ h => by cases h⟩
        | succ _ => simp at h
      | succ _ => simp at h
    | some a =>
      obtain ⟨h1, _, h3⟩ := h
      obtain ⟨b, off, spot⟩ := a
      have h4 := h3.2.1
      simp only at h4
      subst h4
      exact ⟨h1, (fun h => by cases h), fun _ h => by cases h; exact ⟨b, off, rfl⟩⟩
  | _ => simp at h

section
variable {H : Type} {enc : TypeId × Value → H} {w : World} {fuel : Nat}
theorem open_ints_reads {a : Option Addr} {n cap : Nat} {x : DataW H × List MemPlace} (ok : SliceOK a n cap) (h : DataW.trod enc Tryd.prog w 0 (fun _ => true) true fuel 22 [.slice a n cap] = some x) : ∃ xs, Reads w eI a n xs := by
  rcases open_ints Tryd.underlying22 Tryd.underlying3 cells_int h with ⟨h1, _⟩ | ⟨ad, len, cap', zs, h1, _, h2, h3, h4, _, h5, _⟩
  · simp only [List.cons.injEq, Value.slice.injEq, and_true] at h1
    obtain ⟨rfl, rfl, rfl⟩ := h1
    exact ⟨[], rfl, by omega, fun i hi => by omega⟩
  · simp only [List.cons.injEq, Value.slice.injEq, and_true] at h1
    obtain ⟨rfl, rfl, rfl⟩ := h1
    obtain ⟨b, off, rfl⟩ := ok.addr _ rfl
    simp only [if_true] at h4
    have hm : maxLen ≤ 9223372036854775807 := by decide
    refine ⟨zs.take n, by simp; omega, by omega, fun i hi => ⟨b, off, rfl, ?_⟩⟩
    have h6 := h5 i (by omega)
    have e : (⟨b, off, none⟩ : Addr).add i = ⟨b, off + i, none⟩ := by unfold Addr.add; split <;> simp_all
    rw [e] at h6
    rw [h6, List.getElem_take, List.getD_eq_getElem?_getD, List.getElem?_eq_getElem (by omega)]
    rfl
set_option maxRecDepth 10000 in
theorem open_sts_reads {a : Option Addr} {n cap : Nat} {x : DataW H × List MemPlace} (ok : SliceOK a n cap) (h : DataW.trod enc Tryd.prog w 0 (fun _ => true) true fuel 23 [.slice a n cap] = some x) : ∃ xs, ReadsSt w a n xs := by
  rcases open_slice Tryd.underlying23 h with ⟨h1, _⟩ | ⟨ad, len, cap', m, q, D, Pl, h1, _, h2, h3, h4, _, h5⟩
  · simp only [List.cons.injEq, Value.slice.injEq, and_true] at h1
    obtain ⟨rfl, rfl, rfl⟩ := h1
    exact ⟨[], rfl, by omega, fun i hi => by omega⟩
  · simp only [List.cons.injEq, Value.slice.injEq, and_true] at h1
    obtain ⟨rfl, rfl, rfl⟩ := h1
    obtain ⟨b, off, rfl⟩ := ok.addr _ rfl
    simp only [if_true] at h4
    have hm : maxLen ≤ 9223372036854775807 := by decide
    have key : ∀ i, i < n → ∃ s : Int × Int × Int, w.cell? ⟨b, off + i * 3, none⟩ = some (.int .i64 s.1) ∧ w.cell? ⟨b, off + i * 3 + 1, none⟩ = some (.int .u32 s.2.1) ∧ w.cell? ⟨b, off + i * 3 + 2, none⟩ = some (.int .i64 s.2.2) := fun i hi => by
      obtain ⟨cs, h6, h7⟩ := h5 i (by omega)
      rw [cells_st] at h6
      obtain ⟨xs, k, _, _, hl, hxl, hf⟩ := DataW.trod_struct Tryd.underlying53 h7
      rw [cells_st] at hl
      obtain ⟨_, hlen, hcell⟩ := World.cells?_some h6
      match cs, hl with
      | [c0, c1, c2], _ =>
        have u0 := hf 0 _ rfl
        have u1 := hf 1 _ rfl
        have u2 := hf 2 _ rfl
        match xs, hxl with
        | [x0, x1, x2], _ =>
          simp [cells_int] at u0
          simp [cells_u32] at u1
          simp [cells_int] at u2
          obtain ⟨z0, e0, _, _⟩ := DataW.trod_int Tryd.underlying3 u0
          obtain ⟨z1, e1, _, _⟩ := DataW.trod_int Tryd.underlying51 u1
          obtain ⟨z2, e2, _, _⟩ := DataW.trod_int Tryd.underlying3 u2
          have k0 := hcell 0 (by omega)
          have k1 := hcell 1 (by omega)
          have k2 := hcell 2 (by omega)
          simp only [List.cons.injEq, and_true] at e0 e1 e2
          subst e0 e1 e2
          have ea : ∀ q, ((⟨b, off, none⟩ : Addr).add (i * 3)).add q = ⟨b, off + i * 3 + q, none⟩ := fun q => by
            rw [add_add]
            unfold Addr.add
            split
            · rename_i hz
              have h0 : i = 0 := by omega
              have h1 : q = 0 := by omega
              subst h0 h1
              simp
            · show (⟨b, off + (i * 3 + q), none⟩ : Addr) = _
              rw [Nat.add_assoc]
          rw [ea] at k0 k1 k2
          exact ⟨(z0, z1, z2), k0, k1, k2⟩
    obtain ⟨f, hf⟩ := choose_lt key
    refine ⟨(List.range n).map f, by simp, by omega, fun i hi => ⟨b, off, rfl, ?_⟩⟩
    have := hf i hi
    simpa using this
set_option maxRecDepth 10000 in
theorem open_cfg {base : Nat} {v : Value} {d : DataW H} {p : List MemPlace} (hval : Value.okWide Tryd.prog w .any base 25 v) (hd : DataW.Trod enc Tryd.prog w 0 (fun _ => true) true 25 v d p) :
    ∃ (nodes long miss good fresh : Int) (pa sa ba ta : Option Addr) (pn pc sn sc bn bc tn tc : Nat) (ps ss bs : List Int) (ts : List (Int × Int × Int)), v = .agg #[.int .i64 nodes, .slice pa pn pc, .slice sa sn sc, .int .i64 long, .slice ba bn bc, .slice ta tn tc, .int .i64 miss, .int .i64 good, .int .i64 fresh] ∧ CfgIn w nodes long miss good fresh pa sa ba ta pn pc sn sc bn bc tn tc ps ss bs ts := by
  simp only [Value.okWide, Tryd.underlying25] at hval
  obtain ⟨cs, rfl, hsz, ts, hts, _, hrow⟩ := hval
  rw [cfg_types] at hts
  obtain rfl := Option.some.inj hts
  obtain ⟨fuel, hf⟩ := hd
  obtain ⟨xs, k, _, _, hl, hxl, hfl⟩ := DataW.trod_struct Tryd.underlying25 hf
  rw [cells_cfg] at hsz hl
  obtain ⟨l⟩ := cs
  match l, hl, xs, hxl with
  | [c0, c1, c2, c3, c4, c5, c6, c7, c8], _, [x0, x1, x2, x3, x4, x5, x6, x7, x8], _ =>
    have u0 := hfl 0 _ rfl
    have u1 := hfl 1 _ rfl
    have u2 := hfl 2 _ rfl
    have u3 := hfl 3 _ rfl
    have u4 := hfl 4 _ rfl
    have u5 := hfl 5 _ rfl
    have u6 := hfl 6 _ rfl
    have u7 := hfl 7 _ rfl
    have u8 := hfl 8 _ rfl
    simp [Value.cells, cells_int, cells_ints, cells_sts] at u0 u1 u2 u3 u4 u5 u6 u7 u8
    obtain ⟨nodes, e0, _, _⟩ := DataW.trod_int Tryd.underlying3 u0
    obtain ⟨long, e3, _, _⟩ := DataW.trod_int Tryd.underlying3 u3
    obtain ⟨miss, e6, _, _⟩ := DataW.trod_int Tryd.underlying3 u6
    obtain ⟨good, e7, _, _⟩ := DataW.trod_int Tryd.underlying3 u7
    obtain ⟨fresh, e8, _, _⟩ := DataW.trod_int Tryd.underlying3 u8
    simp only [List.cons.injEq, and_true] at e0 e3 e6 e7 e8
    subst e0 e3 e6 e7 e8
    obtain ⟨t1, h1, o1⟩ := hrow 1 c1 rfl
    obtain ⟨t2, h2, o2⟩ := hrow 2 c2 rfl
    obtain ⟨t4, h4, o4⟩ := hrow 4 c4 rfl
    obtain ⟨t5, h5, o5⟩ := hrow 5 c5 rfl
    obtain rfl : _ = t1 := Option.some.inj h1
    obtain rfl : _ = t2 := Option.some.inj h2
    obtain rfl : _ = t4 := Option.some.inj h4
    obtain rfl : _ = t5 := Option.some.inj h5
    obtain ⟨pa, pn, pc, rfl, k1⟩ := cell_slice Tryd.underlying22 o1
    obtain ⟨sa, sn, sc, rfl, k2⟩ := cell_slice Tryd.underlying22 o2
    obtain ⟨ba, bn, bc, rfl, k4⟩ := cell_slice Tryd.underlying22 o4
    obtain ⟨ta, tn, tc, rfl, k5⟩ := cell_slice Tryd.underlying23 o5
    obtain ⟨ps, r1⟩ := open_ints_reads k1 u1
    obtain ⟨ss, r2⟩ := open_ints_reads k2 u2
    obtain ⟨bs, r4⟩ := open_ints_reads k4 u4
    obtain ⟨ts, r5⟩ := open_sts_reads k5 u5
    exact ⟨nodes, long, miss, good, fresh, pa, sa, ba, ta, pn, pc, sn, sc, bn, bc, tn, tc, ps, ss, bs, ts, rfl, ⟨k1, k2, k4, k5, r1, r2, r4, r5⟩⟩
end
end Go.Proofs.YtibncdkekceokaaDoor

/- What a table that lies as its text says holds, cell by cell. -/
namespace Go.Proofs.YtibncdkekceokaaDoor
open Go.ChangeShapes Go.WideShapes Go.ChangeAt Go.WideMaps Go.WideElems Go.RowKit

section
variable {P : Program} {w : World}
theorem laidVars_mem : ∀ {l : List (String × DataW Unit)} {ps : List MemPlace}, DataW.LaidVars P w l ps → ∀ {n : String} {d : DataW Unit}, (n, d) ∈ l →
    ∃ g t cs fuel p, P.globalNamed n = some g ∧ (P.globals[g]?).map (·.type) = some t ∧ w.var? P n = some cs ∧ DataW.trod (fun _ => ()) P w 0 (fun _ => true) false fuel t cs.toList = some (d, p)
  | [], _, _, n, d, hm => by cases hm
  | (n', d') :: r, ps, h, n, d, hm => by
    obtain ⟨g, t, cs, fuel, p, q, h1, h2, h3, h4, h5, _⟩ := h
    rcases List.mem_cons.1 hm with e | hm
    · cases e
      exact ⟨g, t, cs, fuel, p, h1, h2, h3, h4⟩
    · exact laidVars_mem h5 hm
theorem drop_take_one (cs : List Value) (i : Nat) (v : Value) (h : (cs.drop i).take 1 = [v]) : cs[i]? = some v := by
  have e : ((cs.drop i).take 1)[0]? = some v := by rw [h]; rfl
  rw [List.getElem?_take, if_pos (by omega), List.getElem?_drop] at e
  exact e
/-- A row of numbers. -/
theorem trod_nums {fuel n : Nat} {t e : TypeId} {k : IntKind} {cs : List Value} {zs : List Int} {p : List MemPlace} (hu : P.underlying t = some (.array n e)) (he : P.underlying e = some (.int k)) (hc : P.cellsOf e = 1)
    (h : DataW.trod (fun _ => ()) P w 0 (fun _ => true) false fuel t cs = some (.agg (zs.map fun z => DataW.lit (Lit.int k z)), p)) : ∀ (i : Nat) z, zs[i]? = some z → cs[i]? = some (Value.int k z) := by
  obtain ⟨xs, m, _, hx, _, hn, hel⟩ := DataW.trod_array hu h
  intro i z hz
  simp only [Prod.mk.injEq, DataW.agg.injEq] at hx
  have hi : i < zs.length := (List.getElem?_eq_some_iff.1 hz).1
  have hl : zs.length = xs.length := by have := congrArg List.length hx.1; simpa using this
  have h1 := hel i (by omega)
  rw [hc, Nat.mul_one, List.getElem?_eq_getElem (show i < xs.length by omega)] at h1
  obtain ⟨y, e1, e2, _⟩ := DataW.trod_int he h1
  have h2 : (zs.map fun z => (DataW.lit (.int k z) : DataW Unit))[i]? = (xs.map (·.1))[i]? := by rw [hx.1]
  rw [List.getElem?_map, List.getElem?_map, hz, List.getElem?_eq_getElem (show i < xs.length by omega), e2] at h2
  have h3 : z = y := by simpa using h2
  rw [h3]
  exact drop_take_one _ _ _ e1
/-- A row of bools. -/
theorem trod_bools {fuel n : Nat} {t e : TypeId} {cs : List Value} {zs : List Bool} {p : List MemPlace} (hu : P.underlying t = some (.array n e)) (he : P.underlying e = some .bool) (hc : P.cellsOf e = 1)
    (h : DataW.trod (fun _ => ()) P w 0 (fun _ => true) false fuel t cs = some (.agg (zs.map fun z => DataW.lit (Lit.bool z)), p)) : ∀ (i : Nat) z, zs[i]? = some z → cs[i]? = some (Value.bool z) := by
  obtain ⟨xs, m, _, hx, _, hn, hel⟩ := DataW.trod_array hu h
  intro i z hz
  simp only [Prod.mk.injEq, DataW.agg.injEq] at hx
  have hi : i < zs.length := (List.getElem?_eq_some_iff.1 hz).1
  have hl : zs.length = xs.length := by have := congrArg List.length hx.1; simpa using this
  have h1 := hel i (by omega)
  rw [hc, Nat.mul_one, List.getElem?_eq_getElem (show i < xs.length by omega)] at h1
  obtain ⟨y, e1, e2⟩ := DataW.trod_bool he h1
  have h2 : (zs.map fun z => (DataW.lit (.bool z) : DataW Unit))[i]? = (xs.map (·.1))[i]? := by rw [hx.1]
  rw [List.getElem?_map, List.getElem?_map, hz, List.getElem?_eq_getElem (show i < xs.length by omega), e2] at h2
  have h3 : z = y := by simpa using h2
  rw [h3]
  exact drop_take_one _ _ _ e1
theorem trod_bools2 {fuel n m : Nat} {t e b : TypeId} {cs : List Value} {zs : List (List Bool)} {p : List MemPlace} (hu : P.underlying t = some (.array n e)) (he : P.underlying e = some (.array m b)) (hb : P.underlying b = some .bool) (hcb : P.cellsOf b = 1) (hce : P.cellsOf e = m)
    (h : DataW.trod (fun _ => ()) P w 0 (fun _ => true) false fuel t cs = some (.agg (zs.map fun r => DataW.agg (r.map fun z => DataW.lit (Lit.bool z))), p)) : ∀ (i : Nat) r (j : Nat) z, zs[i]? = some r → r[j]? = some z → j < m → cs[i * m + j]? = some (Value.bool z) := by
  obtain ⟨xs, q, _, hx, _, hn, hel⟩ := DataW.trod_array hu h
  intro i r j z hz hj hjm
  simp only [Prod.mk.injEq, DataW.agg.injEq] at hx
  have hi : i < zs.length := (List.getElem?_eq_some_iff.1 hz).1
  have hl : zs.length = xs.length := by have := congrArg List.length hx.1; simpa using this
  have h1 := hel i (by omega)
  rw [hce, List.getElem?_eq_getElem (show i < xs.length by omega)] at h1
  have h2 : (zs.map fun r => (DataW.agg (r.map fun z => DataW.lit (Lit.bool z)) : DataW Unit))[i]? = (xs.map (·.1))[i]? := by rw [hx.1]
  rw [List.getElem?_map, List.getElem?_map, hz, List.getElem?_eq_getElem (show i < xs.length by omega)] at h2
  have h3 : (DataW.agg (r.map fun z => DataW.lit (Lit.bool z)) : DataW Unit) = (xs[i]'(by omega)).1 := by simpa using h2
  have h4 := trod_bools he hb hcb (zs := r) (p := (xs[i]'(by omega)).2) (by rw [h1]; exact congrArg some (Prod.ext h3.symm rfl)) j z hj
  rw [List.getElem?_take, if_pos hjm, List.getElem?_drop] at h4
  exact h4
variable {l : List (String × DataW Unit)}
theorem laid_nums (h : laidMet P l w) {nm : String} {zs : List Int} {k : IntKind} (hm : (nm, DataW.agg (zs.map fun z => DataW.lit (Lit.int k z))) ∈ l) {g n : Nat} {t e : TypeId} (hg : P.globalNamed nm = some g) (ht : (P.globals[g]?).map (·.type) = some t)
    (hu : P.underlying t = some (.array n e)) (he : P.underlying e = some (.int k)) (hc : P.cellsOf e = 1) : ∀ (i : Nat) z, zs[i]? = some z → w.cell? ⟨g, i, none⟩ = some (Value.int k z) := by
  obtain ⟨ps, hv, _⟩ := h
  obtain ⟨g', t', cs, fuel, p, h1, h2, h3, h4⟩ := laidVars_mem hv hm
  obtain rfl := Option.some.inj (hg.symm.trans h1)
  obtain rfl := Option.some.inj (ht.symm.trans h2)
  intro i z hz
  rw [World.var?_cell h1 h3 i, ← Array.getElem?_toList]
  exact trod_nums hu he hc h4 i z hz
theorem laid_bools2 (h : laidMet P l w) {nm : String} {zs : List (List Bool)} (hm : (nm, DataW.agg (zs.map fun r => DataW.agg (r.map fun z => DataW.lit (Lit.bool z)))) ∈ l) {g n m : Nat} {t e b : TypeId} (hg : P.globalNamed nm = some g) (ht : (P.globals[g]?).map (·.type) = some t)
    (hu : P.underlying t = some (.array n e)) (he : P.underlying e = some (.array m b)) (hb : P.underlying b = some .bool) (hcb : P.cellsOf b = 1) (hce : P.cellsOf e = m) : ∀ (i : Nat) r (j : Nat) z, zs[i]? = some r → r[j]? = some z → j < m → w.cell? ⟨g, i * m + j, none⟩ = some (Value.bool z) := by
  obtain ⟨ps, hv, _⟩ := h
  obtain ⟨g', t', cs, fuel, p, h1, h2, h3, h4⟩ := laidVars_mem hv hm
  obtain rfl := Option.some.inj (hg.symm.trans h1)
  obtain rfl := Option.some.inj (ht.symm.trans h2)
  intro i r j z hz hj hjm
  rw [World.var?_cell h1 h3 _, ← Array.getElem?_toList]
  exact trod_bools2 hu he hb hcb hce h4 i r j z hz hj hjm
end

theorem gSigns : Tryd.prog.globalNamed "sennit/rings.signs" = some 1 := by kernel_rfl
/-- The signs lie as they should. -/
theorem signs_of {l : List (String × DataW Unit)} {w : World} (h : laidMetH Tryd.prog l w) (hp : (l.all fun x => x.2.handleName?.isNone) = true) (hm : ("sennit/rings.signs", DataW.agg [.lit (.int .i64 1), .lit (.int .i64 (-1))]) ∈ l) : Signs w := by
  rw [MakeChecks.laidMetH_plain _ _ _ hp] at h
  have key := laid_nums h (zs := [1, -1]) (k := .i64) hm gSigns (show (Tryd.prog.globals[1]?).map (·.type) = some 54 by kernel_rfl) Tryd.underlying54 Tryd.underlying3 (by kernel_rfl)
  have h0 := key 0 1 rfl
  exact ⟨h0, key 1 (-1) rfl, World.block_lt_of_cell? w _ h0⟩
end Go.Proofs.YtibncdkekceokaaDoor

/- sennitlaw19.Plain: the chapters' example. -/
namespace Go.Proofs.YtibncdkekceokaaDoor
open Go.RowKit

set_option maxHeartbeats 1000000 in
theorem plain_any (w : World) :
    Calls Tryd.prog 66 #[] w fun e w' => ∃ pa sa ba, e = .returned (.agg #[.int .i64 4, .slice pa 2 2, .slice sa 2 2, .int .i64 120, .slice ba 4 4, .slice none 0 0, .int .i64 3, .int .i64 3, .int .i64 3]) ∧
      CfgIn w' 4 120 3 3 3 pa sa ba none 2 2 2 2 4 4 0 0 [0, 2] [0, 1] [0, 0, 0, 0] [] ∧ Below w.heap.size w w' := by
  go_enter Tryd.func66, Tryd.ntmps66
  go_wp2
  generalize hw1 : w.alloc (.cells #[.int .i64 4, .slice (some ⟨w.heap.size + 1, 0, none⟩) 2 2, .slice (some ⟨w.heap.size + 1 + 1, 0, none⟩) 2 2, .int .i64 120, .slice (some ⟨w.heap.size + 1 + 1 + 1, 0, none⟩) 4 4, .slice none 0 0, .int .i64 3, .int .i64 3, .int .i64 3] 25) = w1
  have hs1 : w1.heap.size = w.heap.size + 1 := by rw [← hw1]; simp
  have hb1 : Below w.heap.size w w1 := by rw [← hw1]; exact (Below.refl w.heap.size w).alloc (Nat.le_refl _) _
  have hg1 : w1.heap[w.heap.size]? = some (.cells #[.int .i64 4, .slice (some ⟨w.heap.size + 1, 0, none⟩) 2 2, .slice (some ⟨w.heap.size + 1 + 1, 0, none⟩) 2 2, .int .i64 120, .slice (some ⟨w.heap.size + 1 + 1 + 1, 0, none⟩) 4 4, .slice none 0 0, .int .i64 3, .int .i64 3, .int .i64 3] 25 (0, 0)) := by rw [← hw1]; exact heap_new _ _ _ rfl
  clear hw1
  have rp : Reads (w1.alloc (.cells #[.int .i64 0, .int .i64 2] 3)) eI (some ⟨w.heap.size + 1, 0, none⟩) 2 [0, 2] := reads_new _ _ _ _ hs1.symm [0, 2] rfl rfl (by omega)
  generalize hw2 : w1.alloc (.cells #[.int .i64 0, .int .i64 2] 3) = w2 at rp ⊢
  have hs2 : w2.heap.size = w.heap.size + 2 := by rw [← hw2]; simp [hs1]
  have hb2 : Below w1.heap.size w1 w2 := by rw [← hw2]; exact (Below.refl w1.heap.size w1).alloc (Nat.le_refl _) _
  clear hw2
  have rs : Reads (w2.alloc (.cells #[.int .i64 0, .int .i64 1] 3)) eI (some ⟨w.heap.size + 1 + 1, 0, none⟩) 2 [0, 1] := reads_new _ _ _ _ (by rw [hs2]) [0, 1] rfl rfl (by omega)
  generalize hw3 : w2.alloc (.cells #[.int .i64 0, .int .i64 1] 3) = w3 at rs ⊢
  have hs3 : w3.heap.size = w.heap.size + 3 := by rw [← hw3]; simp [hs2]
  have hb3 : Below w2.heap.size w2 w3 := by rw [← hw3]; exact (Below.refl w2.heap.size w2).alloc (Nat.le_refl _) _
  clear hw3
  have rb : Reads (w3.alloc (.cells #[.int .i64 0, .int .i64 0, .int .i64 0, .int .i64 0] 3)) eI (some ⟨w.heap.size + 1 + 1 + 1, 0, none⟩) 4 [0, 0, 0, 0] := reads_new _ _ _ _ (by rw [hs3]) [0, 0, 0, 0] rfl rfl (by omega)
  generalize hw4 : w3.alloc (.cells #[.int .i64 0, .int .i64 0, .int .i64 0, .int .i64 0] 3) = w4 at rb ⊢
  have hb4 : Below w3.heap.size w3 w4 := by rw [← hw4]; exact (Below.refl w3.heap.size w3).alloc (Nat.le_refl _) _
  clear hw4
  have hb24 : Below w2.heap.size w2 w4 := hb3.trans (hb4.mono (by omega))
  have hb14 : Below w1.heap.size w1 w4 := hb2.trans (hb24.mono (by omega))
  have hg4 := (hb14.block w.heap.size (by omega)).trans hg1
  have q0 := heap_cell hg4 0
  have q1 := heap_cell hg4 1
  have q2 := heap_cell hg4 2
  have q3 := heap_cell hg4 3
  have q4 := heap_cell hg4 4
  have q5 := heap_cell hg4 5
  have q6 := heap_cell hg4 6
  have q7 := heap_cell hg4 7
  have q8 := heap_cell hg4 8
  simp only [List.getElem?_toArray, List.getElem?_cons_zero, List.getElem?_cons_succ] at q0 q1 q2 q3 q4 q5 q6 q7 q8
  refine bodyPost_ret (v := .agg #[.int .i64 4, .slice (some ⟨w.heap.size + 1, 0, none⟩) 2 2, .slice (some ⟨w.heap.size + 1 + 1, 0, none⟩) 2 2, .int .i64 120, .slice (some ⟨w.heap.size + 1 + 1 + 1, 0, none⟩) 4 4, .slice none 0 0, .int .i64 3, .int .i64 3, .int .i64 3]) (by simp [results, Tryd.results66, go_sem, q0, q1, q2, q3, q4, q5, q6, q7, q8]) rfl ?_
  have ok : ∀ (b n : Nat), SliceOK (some ⟨b, 0, none⟩) n n := fun b n => ⟨Nat.le_refl _, (fun h => by cases h), fun _ h => by cases h; exact ⟨b, 0, rfl⟩⟩
  exact ⟨_, _, _, rfl, ⟨ok _ _, ok _ _, ok _ _, ⟨Nat.le_refl _, fun _ => ⟨rfl, rfl⟩, fun _ h => by cases h⟩, rp.below hb24, rs.below hb4, rb, ⟨rfl, by omega, fun i hi => by omega⟩⟩, hb1.trans (hb14.mono (by omega))⟩
end Go.Proofs.YtibncdkekceokaaDoor
