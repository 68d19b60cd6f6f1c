/- sennitref04.New: what is wrong with a config, by the reference, is what is wrong by the rules. -/
import Derived.Test.YtibncdkekceokaaDoorRefPairs
import Derived.Laws.MakeOwn
namespace Go.Proofs.YtibncdkekceokaaDoor
open Go.RowKit

/-- 'make' of so many zeros, one cell each. -/
theorem make_row {P : Program} {T e : TypeId} (z : Value) (by_ : Nat) (hu : P.underlying T = some (.slice e)) (hi : (P.info? e).map (fun i => (i.zero, i.size, i.bytes)) = some (some z, 1, by_)) (hz : z.cells = #[z]) (hby : by_ ≤ 1000) (n : Nat) (hn : n ≤ 1000000) (w : World) :
    (Instr.makeSlice T (.int .i64 (n : Int)) (.int .i64 (n : Int))).run P w = .ok (.slice (some ⟨w.heap.size, 0, none⟩) n n) (w.alloc (.cells (List.replicate n z).toArray e)) := by
  obtain ⟨i0, h0, h1, h2, h3⟩ := info_parts hi
  have hle : by_ * n ≤ 1000 * 1000000 := Nat.mul_le_mul hby hn
  have hb : (i0.bytes : Int) * (n : Int) ≤ 281474976710656 := by
    rw [h3]
    have : ((by_ * n : Nat) : Int) ≤ 1000000000 := by omega
    rw [Int.natCast_mul] at this
    omega
  have h := run_make (P := P) w T e i0 z hu h0 h1 .i64 .i64 (n : Int) (n : Int) (by omega) (Int.le_refl _) hb (by omega)
  rw [h, Int.toNat_natCast, h2, Nat.mul_one, hz]
  congr 3
  apply Array.ext
  · simp [madeCells]
  · intro i h1 h2
    simp [madeCells, Nat.mod_one]
theorem info_bool : (Tryd.prog.info? 4).map (fun i => (i.zero, i.size, i.bytes)) = some (some (.bool false), 1, 1) := by kernel_rfl

structure SlotsRel (w wr : World) (g : Nat) (box : Array Value) (k m : Nat) (ss : List Int) (has : List Bool) : Prop where
  blk : wr.heap[g]? = some (.cells (has.map Value.bool).toArray 4 (0, 0))
  box : wr.heap[w.heap.size]? = some (.cells box 25 (0, 0))
  below : Below w.heap.size w wr
  len : has.length = m
  spec : ∀ p, p < m → has.getD p false = decide ((p : Int) ∈ ss.take k)
  ins : ∀ x ∈ ss.take k, 0 ≤ x ∧ x < m
theorem SlotsRel.step {w wr : World} {g k m : Nat} {box : Array Value} {ss : List Int} {has : List Bool} (h : SlotsRel w wr g box k m ss has) (hg : g = w.heap.size + 1) (q y : Nat) (hy : y < m) (hk : ss.take (k + 1) = ss.take k ++ [(y : Int)]) :
    SlotsRel w ((wr.drewN q).setCell ⟨g, y, none⟩ (.bool true)) g box (k + 1) m ss (has.set y true) := by
  refine ⟨?_, ?_, (below_drewN h.below q).setCell (by simp; omega) _, by simpa using h.len, fun p hp => ?_, fun x hx => ?_⟩
  · have h1 : (wr.drewN q).heap[g]? = some (.cells (has.map Value.bool).toArray 4 (0, 0)) := h.blk
    rw [heap_set_same h1, List.setIfInBounds_toArray, List.map_set]
  · have h1 : (wr.drewN q).heap[w.heap.size]? = some (.cells box 25 (0, 0)) := h.box
    rw [Below.heap_setCell _ _ _ _ (by simp; omega)]
    exact h1
  · have hl := h.len
    rw [List.getD_eq_getElem?_getD, List.getElem?_set, hk]
    by_cases e : y = p
    · rw [if_pos e, if_pos (by omega)]
      have : (p : Int) ∈ ss.take k ++ [(y : Int)] := by
        rw [List.mem_append]
        right
        rw [List.mem_singleton, e]
      simp only [Option.getD_some]
      exact (decide_eq_true this).symm
    · rw [if_neg e, ← List.getD_eq_getElem?_getD, h.spec p hp, Bool.eq_iff_iff, decide_eq_true_eq, decide_eq_true_eq, List.mem_append, List.mem_singleton]
      constructor
      · exact .inl
      · rintro (h | h)
        · exact h
        · omega
  · rw [hk, List.mem_append, List.mem_singleton] at hx
    rcases hx with hx | rfl
    · exact h.ins x hx
    · omega
theorem SlotsRel.cell {w wr : World} {g k m : Nat} {box : Array Value} {ss : List Int} {has : List Bool} (h : SlotsRel w wr g box k m ss has) (y : Nat) (hy : y < m) : wr.cell? ⟨g, y, none⟩ = some (.bool (has.getD y false)) := by
  have hl := h.len
  rw [heap_cell h.blk, List.getElem?_toArray, List.getElem?_map, List.getD_eq_getElem?_getD, List.getElem?_eq_getElem (by omega)]
  rfl
theorem slotsB_out {ss : List Int} {m : Nat} {x : Int} (hx : x ∈ ss) (h : ¬ (0 ≤ x ∧ x < m)) : slotsB ss m = false := by
  unfold slotsB
  rw [show insideB ss m = false from decide_eq_false fun hh => h (hh _ hx)]
  rfl
set_option maxHeartbeats 2000000 in
theorem refslots_any (nodes long miss good fresh : Int) (pa sa ba ta : Option Addr) (pn pc sn sc bn bc tn tc : Nat) (ps ss bs : List Int) (ts : List (Int × Int × Int)) (w : World) (hC : CfgIn w nodes long miss good fresh pa sa ba ta pn pc sn sc bn bc tn tc ps ss bs ts) (hl : pn ≤ 1000000) :
    Calls Tryd.prog 73 #[.agg #[.int .i64 nodes, .slice pa pn pc, .slice sa sn sc, .int .i64 long, .slice ba bn bc, .slice ta tn tc, .int .i64 miss, .int .i64 good, .int .i64 fresh]] w fun e w' => e = .returned (.bool (slotsB ss pn)) ∧ Below w.heap.size w w' := by
  have hmk := make_row (.bool false) 1 Tryd.underlying165 info_bool rfl (by omega) pn hl (w.alloc (.cells #[.int .i64 nodes, .slice pa pn pc, .slice sa sn sc, .int .i64 long, .slice ba bn bc, .slice ta tn tc, .int .i64 miss, .int .i64 good, .int .i64 fresh] 25))
  go_enter Tryd.func73, Tryd.ntmps73
  go_wp2
  have R0 := Lib.hid (show SlotsRel w ((w.alloc (.cells #[.int .i64 nodes, .slice pa pn pc, .slice sa sn sc, .int .i64 long, .slice ba bn bc, .slice ta tn tc, .int .i64 miss, .int .i64 good, .int .i64 fresh] 25)).alloc (.cells (Array.replicate pn (.bool false)) 4)) (w.heap.size + 1) #[.int .i64 nodes, .slice pa pn pc, .slice sa sn sc, .int .i64 long, .slice ba bn bc, .slice ta tn tc, .int .i64 miss, .int .i64 good, .int .i64 fresh] 0 pn ss (List.replicate pn false) from
    ⟨by rw [heap_new _ _ _ (by simp)]; simp, heap_alloc2_old w _ _, ((Below.refl w.heap.size w).alloc (Nat.le_refl _) _).alloc (by simp) _, by simp, fun p hp => by rw [List.getD_eq_getElem?_getD, List.getElem?_replicate, if_pos hp]; simp, fun x hx => by simp at hx⟩)
  have HC := Lib.hid hC
  have hrp : ps.length = pn := hC.rp.len
  have hrs : ss.length = sn := hC.rs.len
  have hsm := hC.rs.small
  clear hC hmk
  go_loopw [4] (fun i wr => ∃ (k : Nat) (has : List Bool), k ≤ sn ∧ i = .int .i64 k ∧ Hid (SlotsRel w wr (w.heap.size + 1) #[.int .i64 nodes, .slice pa pn pc, .slice sa sn sc, .int .i64 long, .slice ba bn bc, .slice ta tn tc, .int .i64 miss, .int .i64 good, .int .i64 fresh] k pn ss has)) (fun i _ => sn - (intOf i).toNat)
  case atStart => exact ⟨0, _, Nat.zero_le _, rfl, R0⟩
  case round =>
    obtain ⟨k, has, hk, rfl, HR⟩ := hrel
    have c1 : wr.cell? ⟨w.heap.size, 1, none⟩ = some (.slice pa pn pc) := heap_cell HR.out.box 1
    have c2 : wr.cell? ⟨w.heap.size, 2, none⟩ = some (.slice sa sn sc) := heap_cell HR.out.box 2
    by_cases hlt : k < sn
    · obtain ⟨b, off, rfl, hc⟩ := (HC.out.rs.below HR.out.below).cells k hlt
      have hmem : ss[k]'(by omega) ∈ ss := List.getElem_mem _
      have HT := Lib.hid (List.take_succ_eq_append_getElem (l := ss) (i := k) (by omega))
      generalize hx : ss[k]'(by omega) = x at hc hmem HT
      clear hx
      have HM := Lib.hid hmem
      clear hmem
      unfold eI at hc
      by_cases x0 : x < 0
      · have d0 : decide (x < 0) = true := decide_eq_true x0
        go_wp2
        go_quiet (fail)
        go_wp2
        go_ret
        exact ⟨ret_bool (slotsB_out HM.out (by omega)).symm, below_drewN HR.out.below _⟩
      · have d0 : decide (x < 0) = false := decide_eq_false x0
        by_cases x1 : (pn : Int) ≤ x
        · have d1 : decide ((pn : Int) ≤ x) = true := decide_eq_true x1
          go_wp2
          go_quiet (fail)
          go_wp2
          go_ret
          exact ⟨ret_bool (slotsB_out HM.out (by omega)).symm, below_drewN HR.out.below _⟩
        · have d1 : decide ((pn : Int) ≤ x) = false := decide_eq_false x1
          obtain ⟨y, rfl⟩ : ∃ y : Nat, x = y := ⟨x.toNat, by omega⟩
          have cy := HR.out.cell y (by omega)
          have fy := heap_thawed HR.out.blk y
          go_wp2
          go_quiet (fail)
          go_wp2
          go_roundw
          case rel => exact ⟨k + 1, _, by omega, by go_num, Lib.hid (HR.out.step rfl _ y (by omega) HT.out)⟩
          case measure => simp [intOf]; omega
    · have hl := HR.out.len
      go_wp2
      go_loopw [5] (fun i w1 => ∃ j : Nat, j ≤ pn ∧ i = .int .i64 j ∧ w1 = wr ∧ Hid (∀ p : Nat, p < j → (p : Int) ∈ ss)) (fun i _ => pn - (intOf i).toNat)
      case atStart => exact ⟨0, Nat.zero_le _, rfl, rfl, Lib.hid (fun p hp => by omega)⟩
      case round =>
        obtain ⟨j, hj, rfl, rfl, HJ⟩ := hrel
        have hks : ss.take k = ss := List.take_of_length_le (by omega)
        have HI := Lib.hid (show ∀ x ∈ ss, 0 ≤ x ∧ x < (pn : Int) by have := HR.out.ins; rw [hks] at this; exact this)
        by_cases hjl : j < pn
        · have cj := HR.out.cell j hjl
          have hsp := HR.out.spec j hjl
          rw [hks] at hsp
          rw [hsp] at cj
          by_cases hin : (j : Int) ∈ ss
          · have HIN := Lib.hid hin
            rw [decide_eq_true hin] at cj
            clear hsp hin hks
            go_wp2
            go_roundw
            case rel => exact ⟨j + 1, by omega, by go_num, by trivial, Lib.hid (fun p hp => by
              by_cases e : p = j
              · subst e; exact HIN.out
              · exact HJ.out p (by omega))⟩
            case measure => simp [intOf]; omega
          · have HIN := Lib.hid hin
            rw [decide_eq_false hin] at cj
            clear hsp hin hks
            go_wp2
            go_ret
            refine ⟨ret_bool ?_, HR.out.below⟩
            symm
            unfold slotsB
            rw [Bool.and_eq_false_iff]
            exact .inr (decide_eq_false fun h => HIN.out (h j hjl))
        · clear hks
          go_wp2
          go_ret
          refine ⟨ret_bool ?_, HR.out.below⟩
          symm
          unfold slotsB
          rw [Bool.and_eq_true]
          exact ⟨decide_eq_true HI.out, decide_eq_true fun p hp => HJ.out p (by omega)⟩

theorem refwithin_any (x lo hi : Int) (w : World) :
    Calls Tryd.prog 71 #[.int .i64 x, .int .i64 lo, .int .i64 hi] w fun e w' => e = .returned (.int .i64 (withinE x lo hi)) ∧ w = w' := by
  go_enter Tryd.func71, Tryd.ntmps71
  go_wp2
  all_goals (go_ret; refine ⟨ret_int ?_, rfl⟩; simp [withinE, *])
  all_goals omega
theorem ne_of {x : Int} (h : ¬ x = 0) : (x != 0) = true := by simpa using h
theorem eachE_cons (x : Int) (r : List Int) (lo hi : Int) : eachE (x :: r) lo hi = if withinE x lo hi = 0 then eachE r lo hi else withinE x lo hi := rfl
set_option maxRecDepth 100000 in
set_option maxHeartbeats 12000000 in
theorem refnew_any (nodes long miss good fresh : Int) (pa sa ba ta : Option Addr) (pn pc sn sc bn bc tn tc : Nat) (ps ss bs : List Int) (ts : List (Int × Int × Int)) (w : World) (hC : CfgIn w nodes long miss good fresh pa sa ba ta pn pc sn sc bn bc tn tc ps ss bs ts) :
    Calls Tryd.prog 23 #[.agg #[.int .i64 nodes, .slice pa pn pc, .slice sa sn sc, .int .i64 long, .slice ba bn bc, .slice ta tn tc, .int .i64 miss, .int .i64 good, .int .i64 fresh]] w fun e w' => e = .returned (.int .i64 (Cfg.mk nodes long miss good fresh ps ss bs ts).err) ∧ Below w.heap.size w w' := by
  obtain ⟨c, hc⟩ : ∃ c, c = Cfg.mk nodes long miss good fresh ps ss bs ts := ⟨_, rfl⟩
  rw [← hc]
  have HC := Lib.hid hC
  have HR0 := Lib.hid (show c.rule 0 = withinE nodes 4 16 by subst hc; rfl)
  have HR1 := Lib.hid (show c.rule 1 = withinE pn 2 8 by subst hc; simp only [Cfg.rule, hC.rp.len])
  have HR2 := Lib.hid (show c.rule 2 = mustE (rule3B nodes ps) by subst hc; rfl)
  have HR3 := Lib.hid (show c.rule 3 = withinE sn 1 16 by subst hc; simp only [Cfg.rule, hC.rs.len])
  have HR4 := Lib.hid (show c.rule 4 = mustE (slotsB ss pn) by subst hc; simp only [Cfg.rule, hC.rp.len])
  have HR5 := Lib.hid (show c.rule 5 = withinE long (max (3 * nodes + 1) (nodes + 116)) 4096 by subst hc; rfl)
  have HR6 := Lib.hid (show c.rule 6 = firstE [mustE ((bn : Int) == nodes), eachE bs 0 4096] by subst hc; simp only [Cfg.rule, hC.rb.len])
  have HR7 := Lib.hid (show c.rule 7 = withinE tn 0 8 by subst hc; simp only [Cfg.rule, hC.rt.len])
  have HR8 := Lib.hid (show c.rule 8 = stationsE nodes ts by subst hc; rfl)
  have HR9 := Lib.hid (show c.rule 9 = eachE [miss, good, fresh] 1 100 by subst hc; rfl)
  have hb0 := (Below.refl w.heap.size w).alloc (Nat.le_refl _) (.cells #[.int .i64 nodes, .slice pa pn pc, .slice sa sn sc, .int .i64 long, .slice ba bn bc, .slice ta tn tc, .int .i64 miss, .int .i64 good, .int .i64 fresh] 25)
  have hg0 : (w.alloc (.cells #[.int .i64 nodes, .slice pa pn pc, .slice sa sn sc, .int .i64 long, .slice ba bn bc, .slice ta tn tc, .int .i64 miss, .int .i64 good, .int .i64 fresh] 25)).heap[w.heap.size]? = some (.cells #[.int .i64 nodes, .slice pa pn pc, .slice sa sn sc, .int .i64 long, .slice ba bn bc, .slice ta tn tc, .int .i64 miss, .int .i64 good, .int .i64 fresh] 25 (0, 0)) := heap_new _ _ _ rfl
  have HB0 := Lib.hid hb0
  have HG0 := Lib.hid hg0
  clear hb0 hg0 hc hC
  go_enter Tryd.func23, Tryd.ntmps23
  go_wp2_with fail
  refine (refwithin_any _ _ _ _).mono ?_
  rintro e w' ⟨rfl, rfl⟩
  by_cases z0 : withinE nodes 4 16 = 0
  case neg =>
    have hz := ne_of z0
    have E := Lib.hid (c.err_at 0 (by omega) (fun j hj => by omega) (by rw [HR0.out]; exact z0))
    clear z0
    go_wp2
    go_ret
    exact ⟨ret_int (by rw [E.out, HR0.out]), HB0.out⟩
  rw [z0]
  have hn := within_ok z0
  rw [z0] at HR0
  clear z0
  go_wp2_with fail
  refine (refwithin_any _ _ _ _).mono ?_
  rintro e w' ⟨rfl, rfl⟩
  by_cases z1 : withinE pn 2 8 = 0
  case neg =>
    have hz := ne_of z1
    have E := Lib.hid (c.err_at 1 (by omega) (fun j hj => by obtain rfl : j = 0 := (by omega); exact HR0.out) (by rw [HR1.out]; exact z1))
    clear z1
    go_wp2
    go_ret
    exact ⟨ret_int (by rw [E.out, HR1.out]), HB0.out⟩
  rw [z1]
  have hp := within_ok z1
  rw [z1] at HR1
  clear z1
  go_wp2_with fail
  refine (refpairs_any nodes long miss good fresh pa sa ba ta pn pc sn sc bn bc tn tc ps ss bs ts _ (HC.out.below HB0.out) hn.1 hn.2 (by omega)).mono ?_
  rintro e w1 ⟨rfl, hb1⟩
  have HB1 := Lib.hid (HB0.out.trans (hb1.mono (by simp)))
  have HG1 := Lib.hid ((hb1.block w.heap.size (by simp)).trans HG0.out)
  clear hb1 HB0 HG0
  have k0 : w1.cell? ⟨w.heap.size, 0, none⟩ = some (.int .i64 nodes) := heap_cell HG1.out 0
  have k1 : w1.cell? ⟨w.heap.size, 1, none⟩ = some (.slice pa pn pc) := heap_cell HG1.out 1
  have k2 : w1.cell? ⟨w.heap.size, 2, none⟩ = some (.slice sa sn sc) := heap_cell HG1.out 2
  have k3 : w1.cell? ⟨w.heap.size, 3, none⟩ = some (.int .i64 long) := heap_cell HG1.out 3
  have k4 : w1.cell? ⟨w.heap.size, 4, none⟩ = some (.slice ba bn bc) := heap_cell HG1.out 4
  have k5 : w1.cell? ⟨w.heap.size, 5, none⟩ = some (.slice ta tn tc) := heap_cell HG1.out 5
  have k6 : w1.cell? ⟨w.heap.size, 6, none⟩ = some (.int .i64 miss) := heap_cell HG1.out 6
  have k7 : w1.cell? ⟨w.heap.size, 7, none⟩ = some (.int .i64 good) := heap_cell HG1.out 7
  have k8 : w1.cell? ⟨w.heap.size, 8, none⟩ = some (.int .i64 fresh) := heap_cell HG1.out 8
  cases hz2 : rule3B nodes ps
  · have E := Lib.hid (c.err_at 2 (by omega) (fun j hj => by obtain rfl | rfl : j = 0 ∨ j = 1 := (by omega); exact HR0.out; exact HR1.out) (by rw [HR2.out, hz2]; decide))
    rw [hz2] at HR2
    clear hz2
    go_wp2
    go_ret
    exact ⟨ret_int (by rw [E.out, HR2.out]; rfl), HB1.out⟩
  rw [hz2] at HR2
  clear hz2
  go_wp2_with fail
  refine (refwithin_any _ _ _ _).mono ?_
  rintro e w' ⟨rfl, rfl⟩
  by_cases z3 : withinE sn 1 16 = 0
  case neg =>
    have hz := ne_of z3
    have E := Lib.hid (c.err_at 3 (by omega) (fun j hj => by obtain rfl | rfl | rfl : j = 0 ∨ j = 1 ∨ j = 2 := (by omega); exact HR0.out; exact HR1.out; exact HR2.out) (by rw [HR3.out]; exact z3))
    clear z3
    go_wp2
    go_ret
    exact ⟨ret_int (by rw [E.out, HR3.out]), HB1.out⟩
  rw [z3]
  rw [z3] at HR3
  clear z3
  go_wp2_with fail
  refine (refslots_any nodes long miss good fresh pa sa ba ta pn pc sn sc bn bc tn tc ps ss bs ts _ (HC.out.below HB1.out) (by omega)).mono ?_
  rintro e w2 ⟨rfl, hb2⟩
  have hs1 := HB1.out.size
  have hlt := (Array.getElem?_eq_some_iff.1 HG1.out).1
  have HB2 := Lib.hid (HB1.out.trans (hb2.mono hs1))
  have HG2 := Lib.hid ((hb2.block w.heap.size hlt).trans HG1.out)
  clear hb2 HB1 HG1 k0 k1 k2 k3 k4 k5 k6 k7 k8 hs1 hlt
  have k0 : w2.cell? ⟨w.heap.size, 0, none⟩ = some (.int .i64 nodes) := heap_cell HG2.out 0
  have k1 : w2.cell? ⟨w.heap.size, 1, none⟩ = some (.slice pa pn pc) := heap_cell HG2.out 1
  have k2 : w2.cell? ⟨w.heap.size, 2, none⟩ = some (.slice sa sn sc) := heap_cell HG2.out 2
  have k3 : w2.cell? ⟨w.heap.size, 3, none⟩ = some (.int .i64 long) := heap_cell HG2.out 3
  have k4 : w2.cell? ⟨w.heap.size, 4, none⟩ = some (.slice ba bn bc) := heap_cell HG2.out 4
  have k5 : w2.cell? ⟨w.heap.size, 5, none⟩ = some (.slice ta tn tc) := heap_cell HG2.out 5
  have k6 : w2.cell? ⟨w.heap.size, 6, none⟩ = some (.int .i64 miss) := heap_cell HG2.out 6
  have k7 : w2.cell? ⟨w.heap.size, 7, none⟩ = some (.int .i64 good) := heap_cell HG2.out 7
  have k8 : w2.cell? ⟨w.heap.size, 8, none⟩ = some (.int .i64 fresh) := heap_cell HG2.out 8
  cases hz4 : slotsB ss pn
  · have E := Lib.hid (c.err_at 4 (by omega) (fun j hj => by obtain rfl | rfl | rfl | rfl : j = 0 ∨ j = 1 ∨ j = 2 ∨ j = 3 := (by omega); exact HR0.out; exact HR1.out; exact HR2.out; exact HR3.out) (by rw [HR4.out, hz4]; decide))
    rw [hz4] at HR4
    clear hz4
    go_wp2
    go_ret
    exact ⟨ret_int (by rw [E.out, HR4.out]; rfl), HB2.out⟩
  rw [hz4] at HR4
  clear hz4
  have hn1 := hn.1
  have hn2 := hn.2
  go_wp2_with fail
  refine (refwithin_any _ _ _ _).mono ?_
  rintro e w' ⟨rfl, rfl⟩
  by_cases z5 : withinE long (max (3 * nodes + 1) (nodes + 116)) 4096 = 0
  case neg =>
    have hz := ne_of z5
    have E := Lib.hid (c.err_at 5 (by omega) (fun j hj => by obtain rfl | rfl | rfl | rfl | rfl : j = 0 ∨ j = 1 ∨ j = 2 ∨ j = 3 ∨ j = 4 := (by omega); exact HR0.out; exact HR1.out; exact HR2.out; exact HR3.out; exact HR4.out) (by rw [HR5.out]; exact z5))
    clear z5
    go_wp2
    go_ret
    exact ⟨ret_int (by rw [E.out, HR5.out]), HB2.out⟩
  rw [z5]
  rw [z5] at HR5
  clear z5
  have hbn0 := HC.out.rb.len
  have HBN := Lib.hid hbn0
  clear hbn0
  by_cases zb : (bn : Int) = nodes
  case neg =>
    have hz := ne_of (x := (bn : Int) - nodes) (by omega)
    have hz1 : ((bn : Int) == nodes) = false := by simpa using zb
    have hz2 : ((bn : Int) != nodes) = true := by simpa using zb
    have E := Lib.hid (c.err_at 6 (by omega) (fun j hj => by obtain rfl | rfl | rfl | rfl | rfl | rfl : j = 0 ∨ j = 1 ∨ j = 2 ∨ j = 3 ∨ j = 4 ∨ j = 5 := (by omega); exact HR0.out; exact HR1.out; exact HR2.out; exact HR3.out; exact HR4.out; exact HR5.out) (by rw [HR6.out, hz1]; simp [mustE, firstE]))
    have hme : mustE ((bn : Int) == nodes) = 1 := by rw [hz1]; rfl
    clear zb hz
    go_wp2
    go_ret
    exact ⟨ret_int (by rw [E.out, HR6.out, hme]; simp [firstE]), HB2.out⟩
  have hz2 : ((bn : Int) != nodes) = false := by simpa using zb
  have HR6a := Lib.hid (show c.rule 6 = eachE bs 0 4096 by rw [HR6.out, show ((bn : Int) == nodes) = true by simpa using zb]; simp only [mustE, if_true, firstE]; split <;> simp_all)
  clear zb HR6
  have hbsm := HC.out.rb.small
  go_wp2
  go_loop [3, 4] (fun e i => ∃ k : Nat, k ≤ bn ∧ i = .int .i64 k ∧ e = .int .i64 0 ∧ Hid (eachE (bs.drop k) 0 4096 = eachE bs 0 4096)) (fun _ i => bn - (intOf i).toNat)
  case atStart => exact ⟨0, Nat.zero_le _, rfl, rfl, Lib.hid rfl⟩
  case round =>
    obtain ⟨k, hk, rfl, rfl, HE⟩ := hrel
    by_cases hlt : k < bn
    · obtain ⟨b, off, rfl, hcb⟩ := (HC.out.rb.below HB2.out).cells k hlt
      have HD := Lib.hid (List.drop_eq_getElem_cons (l := bs) (i := k) (by have := HBN.out; omega))
      generalize hx : bs[k]'(by have := HBN.out; omega) = x at hcb HD
      clear hx
      unfold eI at hcb
      by_cases zx : withinE x 0 4096 = 0
      · have hz0 := zx
        go_wp2_with fail
        refine (refwithin_any _ _ _ _).mono ?_
        rintro e w' ⟨rfl, rfl⟩
        rw [zx]
        have HZX := Lib.hid zx
        clear zx hz0
        go_wp2
        go_round
        case rel => exact ⟨k + 1, by omega, by go_num, rfl, Lib.hid (by have h2 := HE.out; rw [HD.out, eachE_cons, if_pos HZX.out] at h2; exact h2)⟩
        case measure => simp [intOf]; omega
      · have hz := ne_of zx
        have E2 := Lib.hid (show eachE bs 0 4096 = withinE x 0 4096 by rw [← HE.out, HD.out, eachE_cons, if_neg zx])
        have E := Lib.hid (c.err_at 6 (by omega) (fun j hj => by obtain rfl | rfl | rfl | rfl | rfl | rfl : j = 0 ∨ j = 1 ∨ j = 2 ∨ j = 3 ∨ j = 4 ∨ j = 5 := (by omega); exact HR0.out; exact HR1.out; exact HR2.out; exact HR3.out; exact HR4.out; exact HR5.out) (by rw [HR6a.out, E2.out]; exact zx))
        clear zx
        go_wp2_with (go_at_call 71; refine (refwithin_any _ _ _ _).mono ?_; rintro e w' ⟨rfl, rfl⟩)
        go_ret
        exact ⟨ret_int (by rw [E.out, HR6a.out, E2.out]), HB2.out⟩
    · have H6 := Lib.hid (show c.rule 6 = 0 by rw [HR6a.out, ← HE.out, List.drop_of_length_le (by have := HBN.out; omega)]; rfl)
      clear HE HR6a
      go_wp2_with fail
      refine (refwithin_any _ _ _ _).mono ?_
      rintro e w' ⟨rfl, rfl⟩
      by_cases z7 : withinE tn 0 8 = 0
      case neg =>
        have hz := ne_of z7
        have E := Lib.hid (c.err_at 7 (by omega) (fun j hj => by obtain rfl | rfl | rfl | rfl | rfl | rfl | rfl : j = 0 ∨ j = 1 ∨ j = 2 ∨ j = 3 ∨ j = 4 ∨ j = 5 ∨ j = 6 := (by omega); exact HR0.out; exact HR1.out; exact HR2.out; exact HR3.out; exact HR4.out; exact HR5.out; exact H6.out) (by rw [HR7.out]; exact z7))
        clear z7
        go_wp2
        go_ret
        exact ⟨ret_int (by rw [E.out, HR7.out]), HB2.out⟩
      rw [z7]
      have ht8 := (within_ok z7).2
      rw [z7] at HR7
      clear z7
      go_wp2
      have htl := Lib.hid HC.out.rt.len
      have HS2 := Lib.hid HB2.out.size
      have hlt2 := (Array.getElem?_eq_some_iff.1 HG2.out).1
      clear k0 k1 k2 k3 k4 k5 k6 k7 k8
      go_loopw [3, 5] (fun e i wr => ∃ k : Nat, k ≤ tn ∧ i = .int .i64 k ∧ e = .int .i64 0 ∧ w.heap.size < wr.heap.size ∧ Hid (stationsE nodes (ts.drop k) = stationsE nodes ts ∧ wr.heap[w.heap.size]? = some (.cells #[.int .i64 nodes, .slice pa pn pc, .slice sa sn sc, .int .i64 long, .slice ba bn bc, .slice ta tn tc, .int .i64 miss, .int .i64 good, .int .i64 fresh] 25 (0, 0)) ∧ Below w.heap.size w wr)) (fun _ i _ => tn - (intOf i).toNat)
      case atStart => exact ⟨0, Nat.zero_le _, rfl, rfl, hlt2, Lib.hid ⟨rfl, HG2.out, HB2.out⟩⟩
      case round =>
        obtain ⟨q, hq, rfl, rfl, hsz, HQ⟩ := hrel
        have k0 : wr.cell? ⟨w.heap.size, 0, none⟩ = some (.int .i64 nodes) := heap_cell HQ.out.2.1 0
        have k5 : wr.cell? ⟨w.heap.size, 5, none⟩ = some (.slice ta tn tc) := heap_cell HQ.out.2.1 5
        have HCT := HC.out.rt.below HQ.out.2.2
        by_cases hlt : q < tn
        · obtain ⟨b, off, hta, h0, h1, h2⟩ := HCT.cells q hlt
          have HD := Lib.hid (List.drop_eq_getElem_cons (l := ts) (i := q) (by have := htl.out; omega))
          generalize hx : ts[q]'(by have := htl.out; omega) = x at h0 h1 h2 HD
          clear hx
          obtain ⟨nd, sf, ho⟩ := x
          simp only at h0 h1 h2
          have hsb : Below w.heap.size w (wr.alloc (.cells #[.int .i64 nd, .int .u32 sf, .int .i64 ho] 53)) := HQ.out.2.2.alloc (by omega) _
          have hgb : (wr.alloc (.cells #[.int .i64 nd, .int .u32 sf, .int .i64 ho] 53)).heap[w.heap.size]? = some (.cells #[.int .i64 nodes, .slice pa pn pc, .slice sa sn sc, .int .i64 long, .slice ba bn bc, .slice ta tn tc, .int .i64 miss, .int .i64 good, .int .i64 fresh] 25 (0, 0)) := (((Below.refl wr.heap.size wr).alloc (Nat.le_refl _) (.cells #[.int .i64 nd, .int .u32 sf, .int .i64 ho] 53)).block _ hsz).trans HQ.out.2.1
          rw [hta] at k5
          clear hta
          have HSB := Lib.hid hsb
          have HGB := Lib.hid hgb
          clear hsb hgb
          by_cases hnd : 0 ≤ nd ∧ nd < nodes
          · have d0 : decide (nd < 0) = false := decide_eq_false (by omega)
            have d1 : decide (nodes ≤ nd) = false := decide_eq_false (by omega)
            have ES := Lib.hid (show stationE nodes (nd, sf, ho) = withinE ho 1 100 by simp only [stationE, decide_eq_true hnd, mustE, if_true, firstE]; split <;> simp_all)
            by_cases zo : withinE ho 1 100 = 0
            · have hz0 := zo
              go_wp2_with fail
              refine (refwithin_any _ _ _ _).mono ?_
              rintro e w' ⟨rfl, rfl⟩
              rw [zo]
              have HZX := Lib.hid zo
              clear zo hz0
              go_wp2
              go_roundw
              case rel =>
                have h2 := HQ.out.1
                rw [HD.out, stationsE, ES.out, if_pos HZX.out] at h2
                have hz1 : w.heap.size < (wr.alloc (.cells #[.int .i64 nd, .int .u32 sf, .int .i64 ho] 53)).heap.size := by simp; omega
                exact ⟨q + 1, by omega, by go_num, by rfl, hz1, Lib.hid ⟨h2, HGB.out, HSB.out⟩⟩
              case measure => simp [intOf]; omega
            · have hz := ne_of zo
              have E2 := Lib.hid (show stationsE nodes ts = withinE ho 1 100 by rw [← HQ.out.1, HD.out, stationsE, ES.out, if_neg zo])
              have E := Lib.hid (c.err_at 8 (by omega) (fun j hj => by obtain rfl | rfl | rfl | rfl | rfl | rfl | rfl | rfl : j = 0 ∨ j = 1 ∨ j = 2 ∨ j = 3 ∨ j = 4 ∨ j = 5 ∨ j = 6 ∨ j = 7 := (by omega); exact HR0.out; exact HR1.out; exact HR2.out; exact HR3.out; exact HR4.out; exact HR5.out; exact H6.out; exact HR7.out) (by rw [HR8.out, E2.out]; exact zo))
              clear zo
              go_wp2_with (go_at_call 71; refine (refwithin_any _ _ _ _).mono ?_; rintro e w' ⟨rfl, rfl⟩)
              go_ret
              exact ⟨ret_int (by rw [E.out, HR8.out, E2.out]), HSB.out⟩
          · have ES := Lib.hid (show stationE nodes (nd, sf, ho) = 1 by simp only [stationE, decide_eq_false hnd, mustE, firstE]; rfl)
            have E2 := Lib.hid (show stationsE nodes ts = 1 by rw [← HQ.out.1, HD.out, stationsE, ES.out, if_neg (by decide)])
            have E := Lib.hid (c.err_at 8 (by omega) (fun j hj => by obtain rfl | rfl | rfl | rfl | rfl | rfl | rfl | rfl : j = 0 ∨ j = 1 ∨ j = 2 ∨ j = 3 ∨ j = 4 ∨ j = 5 ∨ j = 6 ∨ j = 7 := (by omega); exact HR0.out; exact HR1.out; exact HR2.out; exact HR3.out; exact HR4.out; exact HR5.out; exact H6.out; exact HR7.out) (by rw [HR8.out, E2.out]; decide))
            by_cases d0 : nd < 0
            · have d1 : decide (nd < 0) = true := decide_eq_true d0
              clear hnd
              go_wp2
              go_ret
              exact ⟨ret_int (by rw [E.out, HR8.out, E2.out]), HSB.out⟩
            · have d1 : decide (nd < 0) = false := decide_eq_false d0
              have d2 : decide (nodes ≤ nd) = true := decide_eq_true (by omega)
              clear hnd
              go_wp2
              go_ret
              exact ⟨ret_int (by rw [E.out, HR8.out, E2.out]), HSB.out⟩
        · have H8 := Lib.hid (show c.rule 8 = 0 by rw [HR8.out, ← HQ.out.1, List.drop_of_length_le (by have := htl.out; omega)]; rfl)
          have k6 : wr.cell? ⟨w.heap.size, 6, none⟩ = some (.int .i64 miss) := heap_cell HQ.out.2.1 6
          have k7 : wr.cell? ⟨w.heap.size, 7, none⟩ = some (.int .i64 good) := heap_cell HQ.out.2.1 7
          have k8 : wr.cell? ⟨w.heap.size, 8, none⟩ = some (.int .i64 fresh) := heap_cell HQ.out.2.1 8
          have RL : Reads (wr.alloc (.cells #[.int .i64 miss, .int .i64 good, .int .i64 fresh] 3)) eI (some ⟨wr.heap.size, 0, none⟩) 3 [miss, good, fresh] := reads_new _ _ _ _ rfl _ rfl rfl (by omega)
          have HL := Lib.hid (HQ.out.2.2.alloc (by omega) (.cells #[.int .i64 miss, .int .i64 good, .int .i64 fresh] 3))
          go_wp2
          go_loop [3, 8] (fun e i => ∃ k : Nat, k ≤ 3 ∧ i = .int .i64 k ∧ e = .int .i64 0 ∧ Hid (eachE ([miss, good, fresh].drop k) 1 100 = eachE [miss, good, fresh] 1 100)) (fun _ i => 3 - (intOf i).toNat)
          case atStart => exact ⟨0, Nat.zero_le _, rfl, rfl, Lib.hid rfl⟩
          case round =>
            obtain ⟨j, hj, rfl, rfl, HE⟩ := hrel
            by_cases hlt : j < 3
            · obtain ⟨b, off, hba, hcb⟩ := RL.cells j hlt
              simp only [Option.some.injEq, Addr.mk.injEq, and_true] at hba
              obtain ⟨rfl, rfl⟩ := hba
              rw [Nat.zero_add] at hcb
              have HD := Lib.hid (List.drop_eq_getElem_cons (l := [miss, good, fresh]) (i := j) (by simpa using hlt))
              generalize hx : [miss, good, fresh][j]'(by simpa using hlt) = x at hcb HD
              clear hx
              unfold eI at hcb
              clear k0 k5 k6 k7 k8
              by_cases zx : withinE x 1 100 = 0
              · have hz0 := zx
                go_wp2_with fail
                refine (refwithin_any _ _ _ _).mono ?_
                rintro e w' ⟨rfl, rfl⟩
                rw [zx]
                have HZX := Lib.hid zx
                clear zx hz0
                go_wp2
                go_round
                case rel => exact ⟨j + 1, by omega, by go_num, rfl, Lib.hid (by have h2 := HE.out; rw [HD.out, eachE_cons, if_pos HZX.out] at h2; exact h2)⟩
                case measure => simp [intOf]; omega
              · have hz := ne_of zx
                have E2 := Lib.hid (show eachE [miss, good, fresh] 1 100 = withinE x 1 100 by rw [← HE.out, HD.out, eachE_cons, if_neg zx])
                have E := Lib.hid (c.err_at 9 (by omega) (fun j hj => by obtain rfl | rfl | rfl | rfl | rfl | rfl | rfl | rfl | rfl : j = 0 ∨ j = 1 ∨ j = 2 ∨ j = 3 ∨ j = 4 ∨ j = 5 ∨ j = 6 ∨ j = 7 ∨ j = 8 := (by omega); exact HR0.out; exact HR1.out; exact HR2.out; exact HR3.out; exact HR4.out; exact HR5.out; exact H6.out; exact HR7.out; exact H8.out) (by rw [HR9.out, E2.out]; exact zx))
                clear zx
                go_wp2_with (go_at_call 71; refine (refwithin_any _ _ _ _).mono ?_; rintro e w' ⟨rfl, rfl⟩)
                go_ret
                exact ⟨ret_int (by rw [E.out, HR9.out, E2.out]), HL.out⟩
            · have H9 := Lib.hid (show c.rule 9 = 0 by rw [HR9.out, ← HE.out, List.drop_of_length_le (by simp; omega)]; rfl)
              have E := Lib.hid (c.err_none fun j hj => by
                by_cases e9 : j = 9
                · rw [e9]; exact H9.out
                · obtain rfl | rfl | rfl | rfl | rfl | rfl | rfl | rfl | rfl : j = 0 ∨ j = 1 ∨ j = 2 ∨ j = 3 ∨ j = 4 ∨ j = 5 ∨ j = 6 ∨ j = 7 ∨ j = 8 := (by omega); exact HR0.out; exact HR1.out; exact HR2.out; exact HR3.out; exact HR4.out; exact HR5.out; exact H6.out; exact HR7.out; exact H8.out)
              go_wp2
              go_ret
              exact ⟨ret_int (by rw [E.out]), HL.out⟩
end Go.Proofs.YtibncdkekceokaaDoor
