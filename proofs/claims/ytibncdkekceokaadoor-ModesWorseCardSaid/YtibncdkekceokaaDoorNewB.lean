/- configs.New: what is wrong first, or else a net of the config. -/
import Derived.Test.YtibncdkekceokaaDoorNewA
import Derived.Test.YtibncdkekceokaaDoorMid
import Derived.Test.YtibncdkekceokaaDoorRepeat
import Derived.Test.YtibncdkekceokaaDoorHalves
import Derived.Laws.EntriesVeiled
namespace Go.Proofs.YtibncdkekceokaaDoor
open Go.RowKit

/-- The rules, as they lie in memory. -/
def ruleCells : Array Value := #[.func (.func 95) #[] #[], .func (.func 97) #[] #[], .func (.func 98) #[] #[], .func (.func 103) #[] #[], .func (.func 104) #[] #[], .func (.func 106) #[] #[], .func (.func 107) #[] #[], .func (.func 110) #[] #[], .func (.func 111) #[] #[], .func (.func 112) #[] #[]]
theorem ruleCells_eq : ruleCells = #[.func (.func 95) #[] #[], .func (.func 97) #[] #[], .func (.func 98) #[] #[], .func (.func 103) #[] #[], .func (.func 104) #[] #[], .func (.func 106) #[] #[], .func (.func 107) #[] #[], .func (.func 110) #[] #[], .func (.func 111) #[] #[], .func (.func 112) #[] #[]] := rfl
def NewPost (w : World) (c : Cfg) (e : Ending) (w' : World) : Prop :=
  (c.err ≠ 0 ∧ e = .returned (.tuple #[.pointer none, .int .i64 c.err]) ∧ Below w.heap.size w w') ∨
  (c.err = 0 ∧ ∃ b, e = .returned (.tuple #[.pointer (some ⟨b, 0, none⟩), .int .i64 0]) ∧ NetAt w' w.heap.size w'.heap.size b c ∧ Below w.heap.size w w')
theorem NewPost.wrong {w w' : World} {c : Cfg} {x : Int} (k : Nat) (hk : k < 10) (h : ∀ j, j < k → c.rule j = 0) (hr : c.rule k = x) (hne : (x != 0) = true) (hb : Below w.heap.size w w') : NewPost w c (.returned (.tuple #[.pointer none, .int .i64 x])) w' := by
  have hne' : c.rule k ≠ 0 := by rw [hr]; simpa using hne
  have he := c.err_at k hk h hne'
  refine .inl ⟨by rw [he]; exact hne', ?_, hb⟩
  rw [he, hr]
theorem zero_succ {f : Nat → Int} {k : Nat} {x : Int} (h : ∀ j, j < k → f j = 0) (hr : f k = x) (he : (x != 0) = false) : ∀ j, j < k + 1 → f j = 0 := fun j hj => by
  by_cases e : j = k
  · subst e; rw [hr]; simpa using he
  · exact h j (by omega)
theorem NewPost.made {w w2 w4 wr : World} {n q : Nat} {long miss good fresh : Int} {pa sa ba ta : Option Addr} {pn pc sn sc bn bc tn tc : Nat} {ps ss bs : List Int} {ts : List (Int × Int × Int)} {c : Cfg} {ap as_ ab at_ : Option Addr}
    (hz : ∀ j, j < 10 → c.rule j = 0) (hc : c = ⟨n, long, miss, good, fresh, ps, ss, bs, ts⟩) (C : CfgIn w n long miss good fresh pa sa ba ta pn pc sn sc bn bc tn tc ps ss bs ts) (hT : Ready w w2 c n q ap as_ ab at_) (hb4 : Below (w2.heap.size + 1) (w2.alloc (.cells #[.int .i64 n, .slice ap pn pn, .slice as_ sn sn, .int .i64 long, .slice ab bn bn, .slice at_ tn tn, .int .i64 miss, .int .i64 good, .int .i64 fresh, .slice (some ⟨q, 0, none⟩) n n] 56)) w4)
    (hN : w4.heap[w2.heap.size]? = some (.cells #[.int .i64 n, .slice ap pn pn, .slice as_ sn sn, .int .i64 long, .slice ab bn bn, .slice at_ tn tn, .int .i64 miss, .int .i64 good, .int .i64 fresh, .slice (some ⟨q, 0, none⟩) n n] 56 (0, 0))) (hs : w2.heap.size + 1 ≤ w4.heap.size) (hR : Pairing w4 wr q n (2 * pn) (halvesL n ps)) :
    NewPost w c (.returned (.tuple #[.pointer (some ⟨w2.heap.size, 0, none⟩), .int .i64 0])) wr := by
  obtain ⟨lo, hi, r1, r2, r3, r4, r5, r6⟩ := hT
  have hsz := r6.size
  have hsr := hR.size
  obtain rfl := C.rp.len
  obtain rfl := C.rs.len
  obtain rfl := C.rb.len
  obtain rfl := C.rt.len
  subst hc
  have hbl : Below w.heap.size w wr := ((r6.alloc hsz _).trans (hb4.mono (by omega))).trans (hR.low.mono (by omega))
  refine .inr ⟨Cfg.err_none _ hz, w2.heap.size, rfl, ?_, hbl⟩
  refine net_made (w1 := w2) (lo := lo) (hi := hi) r4 (fun g hg1 hg2 => ?_) (by omega) n rfl ?_ ((hR.rest _ (by omega)).trans hN) (by omega) (by omega) (by omega) (by omega) (by omega) (by omega) (Nat.le_refl _)
  · rw [hR.rest g (by omega), hb4.block g (by omega), Below.heap_alloc _ _ _ (by omega)]
  · have := hR.blk
    simpa [Cfg.pairs] using this
theorem rules_cells (w : World) :
    Calls Tryd.prog 67 #[] w fun e w' => e = .returned (.slice (some ⟨w.heap.size, 0, none⟩) 10 10) ∧ w.alloc (.cells ruleCells 130) = w' := rules_any w

set_option maxRecDepth 100000 in
set_option maxHeartbeats 8000000 in
theorem new_any (nodes long miss good fresh : Int) (pa sa ba ta : Option Addr) (pn pc sn sc bn bc tn tc : Nat) (ps ss bs : List Int) (ts : List (Int × Int × Int)) (w : World) (hs : Signs w) (hC : CfgIn w nodes long miss good fresh pa sa ba ta pn pc sn sc bn bc tn tc ps ss bs ts) :
    Calls Tryd.prog 22 #[.agg #[.int .i64 nodes, .slice pa pn pc, .slice sa sn sc, .int .i64 long, .slice ba bn bc, .slice ta tn tc, .int .i64 miss, .int .i64 good, .int .i64 fresh]] w (NewPost w ⟨nodes, long, miss, good, fresh, ps, ss, bs, ts⟩) := by
  obtain ⟨c, hc⟩ : ∃ c, c = Cfg.mk nodes long miss good fresh ps ss bs ts := ⟨_, rfl⟩
  rw [← hc]
  have HC := Lib.hid hC
  have HR0 := Lib.hid (show c.rule 0 = withinE nodes 4 16 by subst hc; rfl)
  have HR1 := Lib.hid (show c.rule 1 = withinE pn 2 8 by subst hc; simp only [Cfg.rule, hC.rp.len])
  have HR2 := Lib.hid (show c.rule 2 = mustE (rule3B nodes ps) by subst hc; rfl)
  have HR3 := Lib.hid (show c.rule 3 = withinE sn 1 16 by subst hc; simp only [Cfg.rule, hC.rs.len])
  have HR4 := Lib.hid (show c.rule 4 = mustE (slotsB ss pn) by subst hc; simp only [Cfg.rule, hC.rp.len])
  have HR5 := Lib.hid (show c.rule 5 = withinE long (max (3 * nodes + 1) (nodes + 116)) 4096 by subst hc; rfl)
  have HR6 := Lib.hid (show c.rule 6 = firstE [mustE ((bn : Int) == nodes), eachE bs 0 4096] by subst hc; simp only [Cfg.rule, hC.rb.len])
  have HR7 := Lib.hid (show c.rule 7 = withinE tn 0 8 by subst hc; simp only [Cfg.rule, hC.rt.len])
  have HR8 := Lib.hid (show c.rule 8 = stationsE nodes ts by subst hc; rfl)
  have HR9 := Lib.hid (show c.rule 9 = eachE [miss, good, fresh] 1 100 by subst hc; rfl)
  have HCC := Lib.hid hc
  clear hC hc
  have hbB := ((Below.refl w.heap.size w).alloc (Nat.le_refl _) (.cells #[.int .i64 nodes, .slice pa pn pc, .slice sa sn sc, .int .i64 long, .slice ba bn bc, .slice ta tn tc, .int .i64 miss, .int .i64 good, .int .i64 fresh] 25)).alloc (by simp) (.cells ruleCells 130)
  have HB := Lib.hid hbB
  clear hbB
  go_enter Tryd.func22, Tryd.ntmps22
  go_wp2_with (go_at_call 67; refine (rules_cells _).mono ?_; rintro e w' ⟨rfl, rfl⟩)
  go_loopw [12] (fun i wr => ∃ k : Nat, k ≤ 10 ∧ i = .int .i64 k ∧ Hid (∀ j, j < k → c.rule j = 0) ∧ Hid (wr.heap[w.heap.size]? = some (.cells #[.int .i64 nodes, .slice pa pn pc, .slice sa sn sc, .int .i64 long, .slice ba bn bc, .slice ta tn tc, .int .i64 miss, .int .i64 good, .int .i64 fresh] 25 (0, 0)) ∧ wr.heap[w.heap.size + 1]? = some (.cells ruleCells 130 (0, 0)) ∧ Below w.heap.size w wr)) (fun i _ => 10 - (intOf i).toNat)
  case atStart =>
    refine ⟨0, by omega, rfl, Lib.hid (fun j hj => by omega), Lib.hid ⟨?_, ?_, HB.out⟩⟩
    · rw [Below.heap_alloc _ _ _ (by simp)]; exact heap_new _ _ _ rfl
    · exact heap_new _ _ _ (by simp)
  case round =>
    obtain ⟨k, hk, rfl, HZ, HM⟩ := hrel
    obtain ⟨hbx, hrl, hbl⟩ := HM.out
    have hlt1 : w.heap.size + 1 < wr.heap.size := (Array.getElem?_eq_some_iff.1 hrl).1
    have hlt0 : w.heap.size < wr.heap.size := by omega
    have q0 := heap_cell hbx 0
    have q1 := heap_cell hbx 1
    have q2 := heap_cell hbx 2
    have q3 := heap_cell hbx 3
    have q4 := heap_cell hbx 4
    have q5 := heap_cell hbx 5
    have q6 := heap_cell hbx 6
    have q7 := heap_cell hbx 7
    have q8 := heap_cell hbx 8
    simp only [List.getElem?_toArray, List.getElem?_cons_zero, List.getElem?_cons_succ] at q0 q1 q2 q3 q4 q5 q6 q7 q8
    obtain rfl | rfl | rfl | rfl | rfl | rfl | rfl | rfl | rfl | rfl | rfl : k = 0 ∨ k = 1 ∨ k = 2 ∨ k = 3 ∨ k = 4 ∨ k = 5 ∨ k = 6 ∨ k = 7 ∨ k = 8 ∨ k = 9 ∨ k = 10 := by omega
    · have hf : wr.cell? ⟨w.heap.size + 1, 0, none⟩ = some (.func (.func 95) #[] #[]) := heap_cell hrl 0
      have hW1 : Below w.heap.size w (wr.alloc (.cells #[.func (.func 95) #[] #[]] 130)) := hbl.alloc (by omega) _
      clear hbx hrl hbl hk
      go_wp2_with fail
      refine (rule1_any nodes long miss good fresh pa sa ba ta pn pc sn sc bn bc tn tc _).mono ?_
      rintro e w2 ⟨rfl, hb2⟩
      have hW2 := hW1.trans (hb2.mono (by simp; omega))
      have hbx2 := (hb2.block w.heap.size (by simp; omega)).trans ((Below.heap_alloc _ _ _ (by omega)).trans HM.out.1)
      have hrl2 := (hb2.block (w.heap.size + 1) (by simp; omega)).trans ((Below.heap_alloc _ _ _ (by omega)).trans HM.out.2.1)
      have H2 := Lib.hid (⟨hbx2, hrl2, hW2⟩ : _ ∧ _ ∧ Below w.heap.size w w2)
      clear hb2 hW2 hbx2 hrl2 hW1 hf q0 q1 q2 q3 q4 q5 q6 q7 q8
      generalize hx : withinE nodes 4 16 = x at HR0
      clear hx
      go_wp2
      · have hne : (x != 0) = true := by assumption
        go_ret2
        exact NewPost.wrong 0 (by omega) HZ.out HR0.out hne H2.out.2.2
      · have heq : (x != 0) = false := by assumption
        go_roundw
        case rel => exact ⟨1, by omega, by go_num, Lib.hid (zero_succ HZ.out HR0.out heq), H2⟩
        case measure => simp [intOf]
    · have hf : wr.cell? ⟨w.heap.size + 1, 1, none⟩ = some (.func (.func 97) #[] #[]) := heap_cell hrl 1
      have hW1 : Below w.heap.size w (wr.alloc (.cells #[.func (.func 97) #[] #[]] 130)) := hbl.alloc (by omega) _
      clear hbx hrl hbl hk
      go_wp2_with fail
      refine (rule2_any nodes long miss good fresh pa sa ba ta pn pc sn sc bn bc tn tc _).mono ?_
      rintro e w2 ⟨rfl, hb2⟩
      have hW2 := hW1.trans (hb2.mono (by simp; omega))
      have hbx2 := (hb2.block w.heap.size (by simp; omega)).trans ((Below.heap_alloc _ _ _ (by omega)).trans HM.out.1)
      have hrl2 := (hb2.block (w.heap.size + 1) (by simp; omega)).trans ((Below.heap_alloc _ _ _ (by omega)).trans HM.out.2.1)
      have H2 := Lib.hid (⟨hbx2, hrl2, hW2⟩ : _ ∧ _ ∧ Below w.heap.size w w2)
      clear hb2 hW2 hbx2 hrl2 hW1 hf q0 q1 q2 q3 q4 q5 q6 q7 q8
      generalize hx : withinE pn 2 8 = x at HR1
      clear hx
      go_wp2
      · have hne : (x != 0) = true := by assumption
        go_ret2
        exact NewPost.wrong 1 (by omega) HZ.out HR1.out hne H2.out.2.2
      · have heq : (x != 0) = false := by assumption
        go_roundw
        case rel => exact ⟨2, by omega, by go_num, Lib.hid (zero_succ HZ.out HR1.out heq), H2⟩
        case measure => simp [intOf]
    · have hf : wr.cell? ⟨w.heap.size + 1, 2, none⟩ = some (.func (.func 98) #[] #[]) := heap_cell hrl 2
      have hW1 : Below w.heap.size w (wr.alloc (.cells #[.func (.func 98) #[] #[]] 130)) := hbl.alloc (by omega) _
      have p2 := within_ok (HR1.out ▸ HZ.out 1 (by omega))
      clear hbx hrl hbl hk
      go_wp2_with fail
      refine (rule3_any nodes long miss good fresh pa sa ba ta pn pc sn sc bn bc tn tc ps _ (hs.below hW1) (HC.out.rp.below hW1) (by omega) (by omega)).mono ?_
      rintro e w2 ⟨rfl, hb2⟩
      have hW2 := hW1.trans (hb2.mono (by simp; omega))
      have hbx2 := (hb2.block w.heap.size (by simp; omega)).trans ((Below.heap_alloc _ _ _ (by omega)).trans HM.out.1)
      have hrl2 := (hb2.block (w.heap.size + 1) (by simp; omega)).trans ((Below.heap_alloc _ _ _ (by omega)).trans HM.out.2.1)
      have H2 := Lib.hid (⟨hbx2, hrl2, hW2⟩ : _ ∧ _ ∧ Below w.heap.size w w2)
      clear hb2 hW2 hbx2 hrl2 hW1 hf q0 q1 q2 q3 q4 q5 q6 q7 q8
      generalize hx : mustE (rule3B nodes ps) = x at HR2
      clear hx
      go_wp2
      · have hne : (x != 0) = true := by assumption
        go_ret2
        exact NewPost.wrong 2 (by omega) HZ.out HR2.out hne H2.out.2.2
      · have heq : (x != 0) = false := by assumption
        go_roundw
        case rel => exact ⟨3, by omega, by go_num, Lib.hid (zero_succ HZ.out HR2.out heq), H2⟩
        case measure => simp [intOf]
    · have hf : wr.cell? ⟨w.heap.size + 1, 3, none⟩ = some (.func (.func 103) #[] #[]) := heap_cell hrl 3
      have hW1 : Below w.heap.size w (wr.alloc (.cells #[.func (.func 103) #[] #[]] 130)) := hbl.alloc (by omega) _
      clear hbx hrl hbl hk
      go_wp2_with fail
      refine (rule4_any nodes long miss good fresh pa sa ba ta pn pc sn sc bn bc tn tc _).mono ?_
      rintro e w2 ⟨rfl, hb2⟩
      have hW2 := hW1.trans (hb2.mono (by simp; omega))
      have hbx2 := (hb2.block w.heap.size (by simp; omega)).trans ((Below.heap_alloc _ _ _ (by omega)).trans HM.out.1)
      have hrl2 := (hb2.block (w.heap.size + 1) (by simp; omega)).trans ((Below.heap_alloc _ _ _ (by omega)).trans HM.out.2.1)
      have H2 := Lib.hid (⟨hbx2, hrl2, hW2⟩ : _ ∧ _ ∧ Below w.heap.size w w2)
      clear hb2 hW2 hbx2 hrl2 hW1 hf q0 q1 q2 q3 q4 q5 q6 q7 q8
      generalize hx : withinE sn 1 16 = x at HR3
      clear hx
      go_wp2
      · have hne : (x != 0) = true := by assumption
        go_ret2
        exact NewPost.wrong 3 (by omega) HZ.out HR3.out hne H2.out.2.2
      · have heq : (x != 0) = false := by assumption
        go_roundw
        case rel => exact ⟨4, by omega, by go_num, Lib.hid (zero_succ HZ.out HR3.out heq), H2⟩
        case measure => simp [intOf]
    · have hf : wr.cell? ⟨w.heap.size + 1, 4, none⟩ = some (.func (.func 104) #[] #[]) := heap_cell hrl 4
      have hW1 : Below w.heap.size w (wr.alloc (.cells #[.func (.func 104) #[] #[]] 130)) := hbl.alloc (by omega) _
      have p2 := within_ok (HR1.out ▸ HZ.out 1 (by omega))
      clear hbx hrl hbl hk
      go_wp2_with fail
      refine (rule5_any nodes long miss good fresh pa sa ba ta pn pc sn sc bn bc tn tc ss _ (HC.out.rs.below hW1) (by omega)).mono ?_
      rintro e w2 ⟨rfl, hb2⟩
      have hW2 := hW1.trans (hb2.mono (by simp; omega))
      have hbx2 := (hb2.block w.heap.size (by simp; omega)).trans ((Below.heap_alloc _ _ _ (by omega)).trans HM.out.1)
      have hrl2 := (hb2.block (w.heap.size + 1) (by simp; omega)).trans ((Below.heap_alloc _ _ _ (by omega)).trans HM.out.2.1)
      have H2 := Lib.hid (⟨hbx2, hrl2, hW2⟩ : _ ∧ _ ∧ Below w.heap.size w w2)
      clear hb2 hW2 hbx2 hrl2 hW1 hf q0 q1 q2 q3 q4 q5 q6 q7 q8
      generalize hx : mustE (slotsB ss pn) = x at HR4
      clear hx
      go_wp2
      · have hne : (x != 0) = true := by assumption
        go_ret2
        exact NewPost.wrong 4 (by omega) HZ.out HR4.out hne H2.out.2.2
      · have heq : (x != 0) = false := by assumption
        go_roundw
        case rel => exact ⟨5, by omega, by go_num, Lib.hid (zero_succ HZ.out HR4.out heq), H2⟩
        case measure => simp [intOf]
    · have hf : wr.cell? ⟨w.heap.size + 1, 5, none⟩ = some (.func (.func 106) #[] #[]) := heap_cell hrl 5
      have hW1 : Below w.heap.size w (wr.alloc (.cells #[.func (.func 106) #[] #[]] 130)) := hbl.alloc (by omega) _
      have p1 := within_ok (HR0.out ▸ HZ.out 0 (by omega))
      clear hbx hrl hbl hk
      go_wp2_with fail
      refine (rule6_any nodes long miss good fresh pa sa ba ta pn pc sn sc bn bc tn tc _ (by omega) (by omega)).mono ?_
      rintro e w2 ⟨rfl, hb2⟩
      have hW2 := hW1.trans (hb2.mono (by simp; omega))
      have hbx2 := (hb2.block w.heap.size (by simp; omega)).trans ((Below.heap_alloc _ _ _ (by omega)).trans HM.out.1)
      have hrl2 := (hb2.block (w.heap.size + 1) (by simp; omega)).trans ((Below.heap_alloc _ _ _ (by omega)).trans HM.out.2.1)
      have H2 := Lib.hid (⟨hbx2, hrl2, hW2⟩ : _ ∧ _ ∧ Below w.heap.size w w2)
      clear hb2 hW2 hbx2 hrl2 hW1 hf q0 q1 q2 q3 q4 q5 q6 q7 q8
      generalize hx : withinE long (max (3 * nodes + 1) (nodes + 116)) 4096 = x at HR5
      clear hx
      go_wp2
      · have hne : (x != 0) = true := by assumption
        go_ret2
        exact NewPost.wrong 5 (by omega) HZ.out HR5.out hne H2.out.2.2
      · have heq : (x != 0) = false := by assumption
        go_roundw
        case rel => exact ⟨6, by omega, by go_num, Lib.hid (zero_succ HZ.out HR5.out heq), H2⟩
        case measure => simp [intOf]
    · have hf : wr.cell? ⟨w.heap.size + 1, 6, none⟩ = some (.func (.func 107) #[] #[]) := heap_cell hrl 6
      have hW1 : Below w.heap.size w (wr.alloc (.cells #[.func (.func 107) #[] #[]] 130)) := hbl.alloc (by omega) _
      clear hbx hrl hbl hk
      go_wp2_with fail
      refine (rule7_any nodes long miss good fresh pa sa ba ta pn pc sn sc bn bc tn tc bs _ (HC.out.rb.below hW1)).mono ?_
      rintro e w2 ⟨rfl, hb2⟩
      have hW2 := hW1.trans (hb2.mono (by simp; omega))
      have hbx2 := (hb2.block w.heap.size (by simp; omega)).trans ((Below.heap_alloc _ _ _ (by omega)).trans HM.out.1)
      have hrl2 := (hb2.block (w.heap.size + 1) (by simp; omega)).trans ((Below.heap_alloc _ _ _ (by omega)).trans HM.out.2.1)
      have H2 := Lib.hid (⟨hbx2, hrl2, hW2⟩ : _ ∧ _ ∧ Below w.heap.size w w2)
      clear hb2 hW2 hbx2 hrl2 hW1 hf q0 q1 q2 q3 q4 q5 q6 q7 q8
      generalize hx : firstE [mustE ((bn : Int) == nodes), eachE bs 0 4096] = x at HR6
      clear hx
      go_wp2
      · have hne : (x != 0) = true := by assumption
        go_ret2
        exact NewPost.wrong 6 (by omega) HZ.out HR6.out hne H2.out.2.2
      · have heq : (x != 0) = false := by assumption
        go_roundw
        case rel => exact ⟨7, by omega, by go_num, Lib.hid (zero_succ HZ.out HR6.out heq), H2⟩
        case measure => simp [intOf]
    · have hf : wr.cell? ⟨w.heap.size + 1, 7, none⟩ = some (.func (.func 110) #[] #[]) := heap_cell hrl 7
      have hW1 : Below w.heap.size w (wr.alloc (.cells #[.func (.func 110) #[] #[]] 130)) := hbl.alloc (by omega) _
      clear hbx hrl hbl hk
      go_wp2_with fail
      refine (rule8_any nodes long miss good fresh pa sa ba ta pn pc sn sc bn bc tn tc _).mono ?_
      rintro e w2 ⟨rfl, hb2⟩
      have hW2 := hW1.trans (hb2.mono (by simp; omega))
      have hbx2 := (hb2.block w.heap.size (by simp; omega)).trans ((Below.heap_alloc _ _ _ (by omega)).trans HM.out.1)
      have hrl2 := (hb2.block (w.heap.size + 1) (by simp; omega)).trans ((Below.heap_alloc _ _ _ (by omega)).trans HM.out.2.1)
      have H2 := Lib.hid (⟨hbx2, hrl2, hW2⟩ : _ ∧ _ ∧ Below w.heap.size w w2)
      clear hb2 hW2 hbx2 hrl2 hW1 hf q0 q1 q2 q3 q4 q5 q6 q7 q8
      generalize hx : withinE tn 0 8 = x at HR7
      clear hx
      go_wp2
      · have hne : (x != 0) = true := by assumption
        go_ret2
        exact NewPost.wrong 7 (by omega) HZ.out HR7.out hne H2.out.2.2
      · have heq : (x != 0) = false := by assumption
        go_roundw
        case rel => exact ⟨8, by omega, by go_num, Lib.hid (zero_succ HZ.out HR7.out heq), H2⟩
        case measure => simp [intOf]
    · have hf : wr.cell? ⟨w.heap.size + 1, 8, none⟩ = some (.func (.func 111) #[] #[]) := heap_cell hrl 8
      have hW1 : Below w.heap.size w (wr.alloc (.cells #[.func (.func 111) #[] #[]] 130)) := hbl.alloc (by omega) _
      clear hbx hrl hbl hk
      go_wp2_with fail
      refine (rule9_any nodes long miss good fresh pa sa ba ta pn pc sn sc bn bc tn tc ts _ (HC.out.rt.below hW1)).mono ?_
      rintro e w2 ⟨rfl, hb2⟩
      have hW2 := hW1.trans (hb2.mono (by simp; omega))
      have hbx2 := (hb2.block w.heap.size (by simp; omega)).trans ((Below.heap_alloc _ _ _ (by omega)).trans HM.out.1)
      have hrl2 := (hb2.block (w.heap.size + 1) (by simp; omega)).trans ((Below.heap_alloc _ _ _ (by omega)).trans HM.out.2.1)
      have H2 := Lib.hid (⟨hbx2, hrl2, hW2⟩ : _ ∧ _ ∧ Below w.heap.size w w2)
      clear hb2 hW2 hbx2 hrl2 hW1 hf q0 q1 q2 q3 q4 q5 q6 q7 q8
      generalize hx : stationsE nodes ts = x at HR8
      clear hx
      go_wp2
      · have hne : (x != 0) = true := by assumption
        go_ret2
        exact NewPost.wrong 8 (by omega) HZ.out HR8.out hne H2.out.2.2
      · have heq : (x != 0) = false := by assumption
        go_roundw
        case rel => exact ⟨9, by omega, by go_num, Lib.hid (zero_succ HZ.out HR8.out heq), H2⟩
        case measure => simp [intOf]
    · have hf : wr.cell? ⟨w.heap.size + 1, 9, none⟩ = some (.func (.func 112) #[] #[]) := heap_cell hrl 9
      have hW1 : Below w.heap.size w (wr.alloc (.cells #[.func (.func 112) #[] #[]] 130)) := hbl.alloc (by omega) _
      clear hbx hrl hbl hk
      go_wp2_with fail
      refine (rule10_any nodes long miss good fresh pa sa ba ta pn pc sn sc bn bc tn tc _).mono ?_
      rintro e w2 ⟨rfl, hb2⟩
      have hW2 := hW1.trans (hb2.mono (by simp; omega))
      have hbx2 := (hb2.block w.heap.size (by simp; omega)).trans ((Below.heap_alloc _ _ _ (by omega)).trans HM.out.1)
      have hrl2 := (hb2.block (w.heap.size + 1) (by simp; omega)).trans ((Below.heap_alloc _ _ _ (by omega)).trans HM.out.2.1)
      have H2 := Lib.hid (⟨hbx2, hrl2, hW2⟩ : _ ∧ _ ∧ Below w.heap.size w w2)
      clear hb2 hW2 hbx2 hrl2 hW1 hf q0 q1 q2 q3 q4 q5 q6 q7 q8
      generalize hx : eachE [miss, good, fresh] 1 100 = x at HR9
      clear hx
      go_wp2
      · have hne : (x != 0) = true := by assumption
        go_ret2
        exact NewPost.wrong 9 (by omega) HZ.out HR9.out hne H2.out.2.2
      · have heq : (x != 0) = false := by assumption
        go_roundw
        case rel => exact ⟨10, by omega, by go_num, Lib.hid (zero_succ HZ.out HR9.out heq), H2⟩
        case measure => simp [intOf]
    · have p1 := within_ok (HR0.out ▸ HZ.out 0 (by omega))
      have p2 := within_ok (HR1.out ▸ HZ.out 1 (by omega))
      have p3 := must_ok (HR2.out ▸ HZ.out 2 (by omega))
      have p4 := within_ok (HR3.out ▸ HZ.out 3 (by omega))
      have p7 := HR6.out ▸ HZ.out 6 (by omega)
      have p8 := within_ok (HR7.out ▸ HZ.out 7 (by omega))
      have hbn : bn ≤ 16 := by
        have : mustE ((bn : Int) == nodes) = 0 := by
          by_cases e : mustE ((bn : Int) == nodes) = 0
          · exact e
          · unfold firstE at p7; rw [if_neg e] at p7; exact absurd p7 e
        have := must_ok this
        simp at this
        omega
      obtain ⟨n, hn⟩ : ∃ n : Nat, nodes = n := ⟨nodes.toNat, by omega⟩
      subst hn
      have HP := Lib.hid (⟨p1, p2, p3, p4, hbn, p8⟩ : _ ∧ _ ∧ _ ∧ _ ∧ bn ≤ 16 ∧ _)
      have hn1 : 1 ≤ n := by omega
      have hn2 : n ≤ 1000 := by omega
      have lpn : pn ≤ 1000000 := by omega
      have lsn : sn ≤ 1000000 := by omega
      have lbn : bn ≤ 1000000 := by omega
      have ltn : tn ≤ 1000000 := by omega
      clear hrl p1 p2 p3 p4 p7 p8 hbn
      go_wp2
      go_region_held3 (fun W => W.cell? ⟨w.heap.size, 0, none⟩ = some (.int .i64 n) ∧ W.cell? ⟨w.heap.size, 1, none⟩ = some (.slice pa pn pc) ∧ W.cell? ⟨w.heap.size, 2, none⟩ = some (.slice sa sn sc) ∧ W.cell? ⟨w.heap.size, 3, none⟩ = some (.int .i64 long) ∧ W.cell? ⟨w.heap.size, 4, none⟩ = some (.slice ba bn bc) ∧ W.cell? ⟨w.heap.size, 5, none⟩ = some (.slice ta tn tc) ∧ W.cell? ⟨w.heap.size, 6, none⟩ = some (.int .i64 miss) ∧ W.cell? ⟨w.heap.size, 7, none⟩ = some (.int .i64 good) ∧ W.cell? ⟨w.heap.size, 8, none⟩ = some (.int .i64 fresh)) (refine ⟨?_, ?_, ?_, ?_, ?_, ?_, ?_, ?_, ?_⟩ <;> first | (go_keep; done) | fail)
        (first | (go_at_call 68; refine (own_box HCC.out HC.out (g := w.heap.size) ?_ ?_ ?_ ?_ ?_ ?_).mono ?_ ; (first | exact hbl.drew | exact (hbl.alloc (by omega) _).drew | fail); (first | exact hbx | exact (Below.heap_alloc _ _ _ (by omega)).trans hbx | fail); (exact lpn); (exact lsn); (exact lbn); (exact ltn); rintro e w1 ⟨ap, as_, ab, at_, rfl, k0, k1, k2, k3, k4, k5, k6, k7, k8, HO⟩) | (go_at_call 69; have hXW : Below w1.heap.size w1 (w1.alloc (.cells #[.int .i64 (-1)] 3)) := (Below.refl w1.heap.size w1).alloc (Nat.le_refl _) _; refine (repeat_any _ (-1) n (w1.alloc (.cells #[.int .i64 (-1)] 3)) (by simp [go_sem]) hn1 hn2).mono ?_; rintro e w2 ⟨rfl, hq, hqs, hb2⟩; (first | (have HT := Lib.hid (ready_of hlt0 hbl.drew (by simp) HO.out hXW hb2 hq hqs)) | (have HT := Lib.hid (ready_of hlt0 (hbl.alloc (by omega) _).drew (by simp) HO.out hXW hb2 hq hqs)) | fail); have z0 := cell_on hXW hb2 0 _ k0; have z1 := cell_on hXW hb2 1 _ k1; have z2 := cell_on hXW hb2 2 _ k2; have z3 := cell_on hXW hb2 3 _ k3; have z4 := cell_on hXW hb2 4 _ k4; have z5 := cell_on hXW hb2 5 _ k5; have z6 := cell_on hXW hb2 6 _ k6; have z7 := cell_on hXW hb2 7 _ k7; have z8 := cell_on hXW hb2 8 _ k8; clear hXW hq hqs hb2 k0 k1 k2 k3 k4 k5 k6 k7 k8; generalize (w1.alloc (.cells #[.int .i64 (-1)] 3)).heap.size = q at HT ⊢) | (go_at_call 69; have hXW : Below w1.heap.size w1 (w1) := Below.refl _ _; refine (repeat_any _ (-1) n (w1) ((HO.out.2.cell (by simp)).trans (by simp [go_sem])) hn1 hn2).mono ?_; rintro e w2 ⟨rfl, hq, hqs, hb2⟩; (first | (have HT := Lib.hid (ready_of hlt0 hbl.drew (by simp) HO.out hXW hb2 hq hqs)) | (have HT := Lib.hid (ready_of hlt0 (hbl.alloc (by omega) _).drew (by simp) HO.out hXW hb2 hq hqs)) | fail); have z0 := cell_on hXW hb2 0 _ k0; have z1 := cell_on hXW hb2 1 _ k1; have z2 := cell_on hXW hb2 2 _ k2; have z3 := cell_on hXW hb2 3 _ k3; have z4 := cell_on hXW hb2 4 _ k4; have z5 := cell_on hXW hb2 5 _ k5; have z6 := cell_on hXW hb2 6 _ k6; have z7 := cell_on hXW hb2 7 _ k7; have z8 := cell_on hXW hb2 8 _ k8; clear hXW hq hqs hb2 k0 k1 k2 k3 k4 k5 k6 k7 k8; generalize (w1).heap.size = q at HT ⊢) | fail)
      go_goals
      all_goals
        clear q0 q1 q2 q3 q4 q5 q6 q7 q8 HO
        have h2lt : w.heap.size < w2.heap.size := World.block_lt_of_cell? w2 _ z0
        obtain ⟨lo, hi, r1, r2, r3, r4, r5, r6⟩ := HT.out
        have hs3 : Signs (w2.alloc (.cells #[.int .i64 n, .slice ap pn pn, .slice as_ sn sn, .int .i64 long, .slice ab bn bn, .slice at_ tn tn, .int .i64 miss, .int .i64 good, .int .i64 fresh, .slice (some ⟨q, 0, none⟩) n n] 56)) := hs.below (r6.alloc (by omega) _)
        have hp3 : Reads (w2.alloc (.cells #[.int .i64 n, .slice ap pn pn, .slice as_ sn sn, .int .i64 long, .slice ab bn bn, .slice at_ tn tn, .int .i64 miss, .int .i64 good, .int .i64 fresh, .slice (some ⟨q, 0, none⟩) n n] 56)) eI pa pn ps := HC.out.rp.below (r6.alloc (by omega) _)
        clear r1 r2 r3 r4 r5 r6
        go_wp2_with fail
        refine (halves_any _ _ _ _ _ _ _ _ _ _ _ ps _ hs3 hp3 lpn).mono ?_
        rintro e w4 ⟨v, rfl, ho, hb4⟩
        obtain ⟨g, cap, rfl, hg, hzl, hzc⟩ := halves_slice ho (by have := HP.out; omega)
        have hN4 := (hb4.block w2.heap.size (by simp)).trans (heap_new _ _ _ rfl)
        have hs4 := hb4.size
        simp only [World.size_alloc] at hb4 hs4 hg
        have HW := Lib.hid (⟨hb4, hN4, hs4, hg, hzl, hzc⟩ : _ ∧ _ ∧ _ ∧ _ ∧ _ ∧ _)
        have HX := Lib.hid (halves_in HP.out.1.1 HP.out.1.2 (ps := ps) (by have := HP.out.2.2.1; unfold rule3B at this; simp only [Bool.and_eq_true] at this; exact this.1.1))
        have hpn1 : 1 ≤ pn := by have := HP.out; omega
        clear ho hs3 hp3 hb4 hN4 hs4 hg hzl hzc z0 z1 z2 z3 z4 z5 z6 z7 z8
        go_wp2
        go_loopw [8, 9, 35] (fun _ _ i wr => ∃ k : Nat, k ≤ 2 * pn ∧ i = .int .i64 k ∧ Hid (Pairing w4 wr q n k (halvesL n ps))) (fun _ _ i _ => 2 * pn - (intOf i).toNat)
        case atStart =>
          refine ⟨0, by omega, by go_num, Lib.hid ⟨?_, fun _ _ => rfl, rfl, Below.refl _ _⟩⟩
          obtain ⟨lo, hi, r1, r2, r3, r4, r5, r6⟩ := HT.out
          rw [HW.out.1.block q (by omega), Below.heap_alloc _ _ _ r3, r5]
          simp [pairsUp]
        case round =>
          obtain ⟨k, hk, rfl, HR⟩ := hrel
          by_cases hlt : k < 2 * pn
          · obtain ⟨x, hx⟩ : ∃ x, (halvesL n ps)[k]? = some x := ⟨_, List.getElem?_eq_getElem (by have := HW.out.2.2.2.2.1; omega)⟩
            have hx2 := HX.out x (List.mem_of_getElem? hx)
            obtain ⟨y, rfl⟩ : ∃ y : Nat, x = y := ⟨x.toNat, by omega⟩
            have hy : y < n := by omega
            have hqg : g ≠ q := by
              obtain ⟨lo, hi, r1, r2, r3, r4, r5, r6⟩ := HT.out
              have := HW.out.2.2.2.1
              omega
            have hqb : w2.heap.size ≠ q := by
              obtain ⟨lo, hi, r1, r2, r3, r4, r5, r6⟩ := HT.out
              omega
            have hv : wr.cell? ⟨g, k, none⟩ = some (.int .i64 y) := by
              rw [cell_of_block (HR.out.rest g hqg)]
              exact HW.out.2.2.2.2.2 k _ hx
            have hpq : wr.cell? ⟨w2.heap.size, 9, none⟩ = some (.slice (some ⟨q, 0, none⟩) n n) := by
              rw [cell_of_block (HR.out.rest _ hqb)]
              exact heap_cell HW.out.2.1 9
            obtain ⟨⟨v0, hv0⟩, hf0⟩ := HR.out.cells y hy
            have HN := Lib.hid (HR.out.step y hx)
            clear hx hx2 hqg hqb
            go_wp2
            go_roundw
            case rel => exact ⟨k + 1, by omega, by go_num, HN⟩
            case measure => simp [intOf]; omega
          · go_wp2
            have ek : k = 2 * pn := by omega
            subst ek
            go_ret2
            exact NewPost.made HZ.out HCC.out HC.out HT.out HW.out.1 HW.out.2.1 HW.out.2.2.1 HR.out
end Go.Proofs.YtibncdkekceokaaDoor
