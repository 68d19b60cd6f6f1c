/- sennitlaw04.ConfigsHalves: the walk. -/
import Derived.Test.YtibncdkekceokaaDoorLives04
import Derived.Test.YtibncdkekceokaaDoorSame
import Derived.Test.YtibncdkekceokaaDoorPairs
import Derived.Test.YtibncdkekceokaaDoorRefNew
namespace Go.Proofs.YtibncdkekceokaaDoor
open Go.RowKit

/-- How many of the first nodes are a pair's. -/
def cntP (c : Cfg) (p : Nat) : Nat → Nat
  | 0 => 0
  | i + 1 => cntP c p i + if pairF c i = p then 1 else 0
theorem cntP_two {c : Cfg} (h : CfgOK c) (p : Nat) (hp : p < c.ps.length) : cntP c p c.nodes.toNat = 2 := by
  have hb := h.pin c.ps[p] (List.getElem_mem _)
  have hn := next_ne h _ hb.1 hb.2
  have h4 := h.n4
  have := count_two h p hp (cntP c p) rfl (fun i _ => rfl) c.nodes.toNat (by omega)
  rw [this, if_pos (by omega), if_pos (by omega)]
theorem cntP_le (c : Cfg) (p : Nat) : ∀ i, cntP c p i ≤ i := by
  intro i
  induction i with
  | zero => exact Nat.le_refl _
  | succ i ih => simp only [cntP]; split <;> omega
/-- The counts, as they stand in memory. -/
def cntL (c : Cfg) (m i : Nat) : List Int := (List.range m).map fun p => (cntP c p i : Int)
theorem cntL_get (c : Cfg) (m i p : Nat) (hp : p < m) : (cntL c m i)[p]? = some (cntP c p i : Int) := by
  unfold cntL
  rw [List.getElem?_map, List.getElem?_range hp]
  rfl
theorem cntL_none (c : Cfg) (m i : Nat) (h : pairF c i = -1) : cntL c m (i + 1) = cntL c m i := by
  unfold cntL
  apply List.map_congr_left
  intro p _
  simp only [cntP]
  rw [if_neg (by omega)]
  simp
theorem cntL_step (c : Cfg) (m i p : Nat) (hp : p < m) (h : pairF c i = p) : cntL c m (i + 1) = (cntL c m i).set p ((cntP c p i : Int) + 1) := by
  apply List.ext_getElem?
  intro q
  rw [List.getElem?_set]
  by_cases hq : q < m
  · rw [cntL_get c m (i + 1) q hq]
    have hl : (cntL c m i).length = m := by simp [cntL]
    by_cases e : p = q
    · subst e
      rw [if_pos rfl, if_pos (by omega)]
      simp only [cntP]
      rw [if_pos h]
      rfl
    · rw [if_neg e, cntL_get c m i q hq]
      simp only [cntP]
      rw [if_neg (by omega)]
      rfl
  · have h1 : (cntL c m (i + 1)).length = m := by simp [cntL]
    have h2 : (cntL c m i).length = m := by simp [cntL]
    rw [List.getElem?_eq_none (by omega), if_neg (by omega), List.getElem?_eq_none (by omega)]
structure HalvesRel (w3 wr : World) (c : Cfg) (m i : Nat) : Prop where
  below : Below w3.heap.size w3 wr
  row : wr.heap[w3.heap.size]? = some (.cells ((cntL c m i).map eI).toArray 3 (0, 0))
theorem HalvesRel.cell {w3 wr : World} {c : Cfg} {m i : Nat} (h : HalvesRel w3 wr c m i) (p : Nat) (hp : p < m) : wr.cell? ⟨w3.heap.size, p, none⟩ = some (.int .i64 (cntP c p i)) := by
  rw [heap_cell h.row, List.getElem?_toArray, List.getElem?_map, cntL_get c m i p hp]
  rfl
theorem HalvesRel.drawn {w3 wr : World} {c : Cfg} {m i : Nat} (h : HalvesRel w3 wr c m i) (k : Nat) : HalvesRel w3 (wr.drewN k) c m i := ⟨below_drewN h.below k, h.row⟩
theorem HalvesRel.step {w3 wr : World} {c : Cfg} {m i p : Nat} (h : HalvesRel w3 wr c m i) (hp : p < m) (hpf : pairF c i = p) : HalvesRel w3 (wr.setCell ⟨w3.heap.size, p, none⟩ (.int .i64 ((cntP c p i : Int) + 1))) c m (i + 1) :=
  ⟨h.below.setCell (Nat.le_refl _) _, by rw [heap_set_same h.row, List.setIfInBounds_toArray, cntL_step c m i p hp hpf, List.map_set]; rfl⟩
theorem quiet_dr {P : Program} {f : FuncId} {args : Array Value} {w : World} {n : Nat} {v : Value}
    (h : Calls P f args (w.drewN n) fun e w' => e = .returned v ∧ ∃ k, w' = (w.drewN n).drewN k) : Calls P f args (w.drewN n) fun e w'' => e = .returned v ∧ ∃ m, w'' = w.drewN m :=
  h.mono fun _ _ ⟨he, k, hm⟩ => ⟨he, n + k, hm.trans (World.drewN_drewN ..)⟩
theorem mask40 (s : Int) : 0 ≤ bits .and .i64 s 1099511627775 ∧ bits .and .i64 s 1099511627775 ≤ 1099511627775 := by
  have h : (BitVec.ofInt 64 s &&& BitVec.ofInt 64 1099511627775).toNat ≤ 1099511627775 := by
    rw [BitVec.toNat_and]
    exact Nat.le_trans Nat.and_le_right (by decide)
  have e : bits .and .i64 s 1099511627775 = IntKind.i64.wrap ((BitVec.ofInt 64 s &&& BitVec.ofInt 64 1099511627775).toNat : Int) := rfl
  rw [e, IntKind.wrap_i64]
  omega
theorem info_int : (Tryd.prog.info? 3).map (fun i => (i.zero, i.size, i.bytes)) = some (some (.int .i64 0), 1, 8) := by kernel_rfl
set_option maxRecDepth 100000 in
set_option maxHeartbeats 8000000 in
theorem configsHalves_walk (nodes long miss good fresh : Int) (pa sa ba ta : Option Addr) (pn pc sn sc bn bc tn tc : Nat) (ps ss bs : List Int) (ts : List (Int × Int × Int)) (slot : Int) (w : World) (hs : Signs w) (hC : CfgIn w nodes long miss good fresh pa sa ba ta pn pc sn sc bn bc tn tc ps ss bs ts) :
    Calls Tryd.prog 10 #[.agg #[.int .i64 nodes, .slice pa pn pc, .slice sa sn sc, .int .i64 long, .slice ba bn bc, .slice ta tn tc, .int .i64 miss, .int .i64 good, .int .i64 fresh], .int .i64 slot] w fun e w' => e = .returned (.bool true) ∧ Below w.heap.size w w' := by
  have hb0 := (Below.refl w.heap.size w).alloc (Nat.le_refl _) (.cells #[.int .i64 nodes, .slice pa pn pc, .slice sa sn sc, .int .i64 long, .slice ba bn bc, .slice ta tn tc, .int .i64 miss, .int .i64 good, .int .i64 fresh] 25)
  have r0 : (w.alloc (.cells #[.int .i64 nodes, .slice pa pn pc, .slice sa sn sc, .int .i64 long, .slice ba bn bc, .slice ta tn tc, .int .i64 miss, .int .i64 good, .int .i64 fresh] 25)).heap[w.heap.size]? = some (.cells #[.int .i64 nodes, .slice pa pn pc, .slice sa sn sc, .int .i64 long, .slice ba bn bc, .slice ta tn tc, .int .i64 miss, .int .i64 good, .int .i64 fresh] 25 (0, 0)) := heap_new _ _ _ rfl
  have hG := great_any nodes long miss good fresh pa sa ba ta pn pc sn sc bn bc tn tc ps ss bs ts _ (hC.below hb0)
  have HS := Lib.hid hs
  have HC := Lib.hid hC
  have HB0 := Lib.hid hb0
  have HR0 := Lib.hid r0
  clear hs hC hb0 r0
  go_enter Tryd.func10, Tryd.ntmps10
  go_wp2_with fail
  refine hG.mono ?_
  rintro e w1 ⟨rfl, hb1⟩
  have HB1 := Lib.hid (HB0.out.trans (hb1.mono (by simp)))
  have r1 : w1.heap[w.heap.size]? = some (.cells #[.int .i64 nodes, .slice pa pn pc, .slice sa sn sc, .int .i64 long, .slice ba bn bc, .slice ta tn tc, .int .i64 miss, .int .i64 good, .int .i64 fresh] 25 (0, 0)) := (hb1.block _ (by simp)).trans HR0.out
  have HR1 := Lib.hid r1
  have k0 : w1.cell? ⟨w.heap.size, 0, none⟩ = some (.int .i64 nodes) := heap_cell r1 0
  have k1 : w1.cell? ⟨w.heap.size, 1, none⟩ = some (.slice pa pn pc) := heap_cell r1 1
  have k2 : w1.cell? ⟨w.heap.size, 2, none⟩ = some (.slice sa sn sc) := heap_cell r1 2
  have k3 : w1.cell? ⟨w.heap.size, 3, none⟩ = some (.int .i64 long) := heap_cell r1 3
  have k4 : w1.cell? ⟨w.heap.size, 4, none⟩ = some (.slice ba bn bc) := heap_cell r1 4
  have k5 : w1.cell? ⟨w.heap.size, 5, none⟩ = some (.slice ta tn tc) := heap_cell r1 5
  have k6 : w1.cell? ⟨w.heap.size, 6, none⟩ = some (.int .i64 miss) := heap_cell r1 6
  have k7 : w1.cell? ⟨w.heap.size, 7, none⟩ = some (.int .i64 good) := heap_cell r1 7
  have k8 : w1.cell? ⟨w.heap.size, 8, none⟩ = some (.int .i64 fresh) := heap_cell r1 8
  clear hb1 hG r1
  by_cases big : 60 < pn ∨ 60 < sn ∨ 60 < bn ∨ 60 < tn
  · rw [decide_eq_true big]
    have hl := lives04_any w1 (HS.out.below HB1.out)
    clear big
    go_wp2_with (go_at_call 31; refine (hl).mono ?_; rintro e w' ⟨rfl, hbe⟩)
    go_ret
    exact ⟨rfl, HB1.out.trans (hbe.mono HB1.out.size)⟩
  rw [decide_eq_false big]
  clear big
  go_wp2_with fail
  obtain ⟨c, hc⟩ : ∃ c, c = Cfg.mk nodes long miss good fresh ps ss bs ts := ⟨_, rfl⟩
  have hN := new_any nodes long miss good fresh pa sa ba ta pn pc sn sc bn bc tn tc ps ss bs ts w1 (HS.out.below HB1.out) (HC.out.below HB1.out)
  rw [← hc] at hN
  have HCC := Lib.hid hc
  clear hc
  refine hN.mono ?_
  rintro e w3 hP
  clear hN k0 k1 k2 k3 k4 k5 k6 k7 k8
  rcases hP with ⟨h0, rfl, hb3⟩ | ⟨h0, b, rfl, hA, hb3⟩
  · have HB3 := Lib.hid (HB1.out.trans (hb3.mono HB1.out.size))
    have hl := lives04_any w3 (HS.out.below HB3.out)
    have hne : (c.err != 0) = true := by simpa using h0
    generalize c.err = x at hne
    clear hb3 h0
    go_wp2_with (go_at_call 31; refine (hl).mono ?_; rintro e w' ⟨rfl, hbe⟩)
    go_ret
    exact ⟨rfl, HB3.out.trans (hbe.mono HB3.out.size)⟩
  · have hok := Cfg.ok h0
    have HB3 := Lib.hid (HB1.out.trans (hb3.mono HB1.out.size))
    have r3 := (hb3.block w.heap.size (Array.getElem?_eq_some_iff.1 HR1.out).1).trans HR1.out
    have HR3 := Lib.hid r3
    have HNP := Lib.hid (hA.ptr hok)
    obtain ⟨npa, nsa, nba, nta, nqa, hV⟩ := hA.view hok
    have HV := Lib.hid hV
    have HOK := Lib.hid hok
    have hnodes : c.nodes = nodes := by rw [HCC.out]
    have hpl : c.ps.length = pn := by rw [HCC.out]; exact HC.out.rp.len
    have hsl : c.ss.length = sn := by rw [HCC.out]; exact HC.out.rs.len
    have HN1 := Lib.hid hnodes
    have HP1 := Lib.hid hpl
    have HS1 := Lib.hid hsl
    have n4 : 4 ≤ nodes := by rw [← hnodes]; exact hok.n4
    have n16 : nodes ≤ 16 := by rw [← hnodes]; exact hok.n16
    have p2 : 2 ≤ pn := by rw [← hpl]; exact hok.p2
    have p8 : pn ≤ 8 := by rw [← hpl]; exact hok.p8
    have k1 : w3.cell? ⟨w.heap.size, 1, none⟩ = some (.slice pa pn pc) := heap_cell r3 1
    clear hA hok hV hnodes hpl hsl hb3 r3 h0
    have hmk := make_row (.int .i64 0) 8 Tryd.underlying22 info_int rfl (by omega) pn (by omega) w3
    go_wp2
    have R0 := Lib.hid (show HalvesRel w3 (w3.alloc (.cells (Array.replicate pn (.int .i64 0)) 3)) c pn 0 from ⟨(Below.refl _ _).alloc (Nat.le_refl _) _, by
      rw [heap_new _ _ _ rfl]
      congr 2
      rw [← List.toArray_replicate]
      congr 1
      apply List.ext_getElem?
      intro q
      rw [List.getElem?_replicate, List.getElem?_map]
      by_cases hq : q < pn
      · rw [if_pos hq, cntL_get c pn 0 q hq]; rfl
      · rw [if_neg hq, List.getElem?_eq_none (by simp [cntL]; omega)]; rfl⟩)
    clear hmk
    go_loopw [8] (fun i wr => ∃ k : Nat, (k : Int) ≤ nodes ∧ i = .int .i64 k ∧ Hid (HalvesRel w3 wr c pn k)) (fun i _ => nodes.toNat - (intOf i).toNat)
    case atStart => exact ⟨0, by omega, rfl, R0⟩
    case round =>
      obtain ⟨k, hk, rfl, HR⟩ := hrel
      have z0 : wr.cell? ⟨w.heap.size, 0, none⟩ = some (.int .i64 nodes) := heap_cell ((HR.out.below.block _ (Array.getElem?_eq_some_iff.1 HR3.out).1).trans HR3.out) 0
      have z1 : wr.cell? ⟨w.heap.size, 1, none⟩ = some (.slice pa pn pc) := heap_cell ((HR.out.below.block _ (Array.getElem?_eq_some_iff.1 HR3.out).1).trans HR3.out) 1
      have DPa : ∀ (W : World) (i : Int), Below w3.heap.size w3 W → Calls Tryd.prog 39 #[.pointer (some ⟨b, 0, none⟩), .int .i64 i] W fun e w' => e = .returned (.int .i64 (pairF c i)) ∧ W = w' := fun W i hb => pair_any _ c c.pairs i W (HNP.out.below hb)
      have DPr : ∀ (W : World) (i : Int), Below w3.heap.size w3 W → Calls Tryd.prog 40 #[.pointer (some ⟨b, 0, none⟩), .int .i64 i] W fun e w' => e = .returned (.int .i64 (partnerF c.pairs c i)) ∧ ∃ k, w' = W.drewN k := fun W i hb => partner_any _ c c.pairs i W (HNP.out.below hb) (HS.out.below (HB3.out.trans (hb.mono HB3.out.size)))
      have DFi : ∀ (W : World) (i : Int), Below w3.heap.size w3 W → Calls Tryd.prog 38 #[.pointer (some ⟨b, 0, none⟩), .int .i64 i] W fun e w' => e = .returned (.int .i64 (fromL c.pairs c.ps i)) ∧ W = w' := fun W i hb => netfirst_any _ c c.pairs i W (HNP.out.below hb)
      have DDi : ∀ (W : World) (a i : Int), Below w3.heap.size w3 W → Calls Tryd.prog 44 #[.int .i64 nodes, .int .u8 0, .int .i64 a, .int .i64 i] W fun e w' => e = .returned (.int .i64 (distF nodes 0 a i)) ∧ ∃ k, w' = W.drewN k := fun W a i hb => dist_any nodes 0 a i W (by omega) (HS.out.below (HB3.out.trans (hb.mono HB3.out.size)))
      have EPa := Lib.hid DPa
      have EPr := Lib.hid DPr
      have EFi := Lib.hid DFi
      have EDi := Lib.hid DDi
      clear DPa DPr DFi DDi
      by_cases hlt : (k : Int) < nodes
      · rcases pair_inv HOK.out (k : Int) with ⟨hp, _⟩ | ⟨p, hpl, hp, ho⟩
        · have hpt := partner_none HOK.out _ hp
          have HP0 := Lib.hid hp
          go_wp2_with fail
          refine (EPa.out _ _ HR.out.below).mono ?_
          rintro e w4 ⟨rfl, rfl⟩
          rw [hp]
          clear hp
          go_wp2_with fail
          refine (EPr.out _ _ HR.out.below).mono ?_
          rintro e w4 ⟨rfl, n1, rfl⟩
          rw [hpt]
          clear hpt
          go_wp2
          go_roundw
          case rel => exact ⟨k + 1, by omega, by go_num, Lib.hid (by have h := HR.out.drawn n1; exact ⟨h.below, by rw [cntL_none c pn k HP0.out]; exact h.row⟩)⟩
          case measure => simp [intOf]; omega
        · have key : ∃ a o d : Int, fromL c.pairs c.ps (p : Int) = a ∧ partnerF c.pairs c (k : Int) = o ∧ partnerF c.pairs c o = k ∧ pairF c o = p ∧ distF nodes 0 a k = d ∧ (((k : Int) = a ∧ d = 0) ∨ ((k : Int) ≠ a ∧ d = 1)) := by
            have hok := HOK.out
            have hb := hok.pin c.ps[p] (List.getElem_mem _)
            have hn := next_ne hok _ hb.1 hb.2
            have hpo := partner_of hok p hpl
            have hn4 := hok.n4
            have hn16 := hok.n16
            have hdist : ∀ a i : Int, 0 ≤ a → a < c.nodes → 0 ≤ i → i < c.nodes → distF nodes 0 a i = (i - a) % c.nodes := fun a i h1 h2 h3 h4 => by
              rw [← HN1.out]
              unfold distF
              rw [if_pos ⟨by simp [ringB]; omega, by simp [nodeB]; omega, by simp [nodeB]; omega⟩, if_pos rfl]
            rcases ho with ho | ho
            · refine ⟨c.ps[p], (c.ps[p] + 1) % c.nodes, 0, first_at hok p hpl, by rw [ho]; exact hpo.1, by rw [ho]; exact hpo.2, pair_of hok p hpl _ (.inr rfl), ?_, .inl ⟨ho, rfl⟩⟩
              rw [hdist _ _ hb.1 hb.2 (by omega) (by omega), ho, Int.sub_self, Int.zero_emod]
            · refine ⟨c.ps[p], c.ps[p], 1, first_at hok p hpl, by rw [ho]; exact hpo.2, by rw [hpo.1]; exact ho.symm, pair_of hok p hpl _ (.inl rfl), ?_, .inr ⟨by rw [ho]; exact hn.1, rfl⟩⟩
              rw [hdist _ _ hb.1 hb.2 (by omega) (by omega), ho]
              by_cases e : c.ps[p] + 1 = c.nodes
              · rw [e, Int.emod_self, show (0 : Int) - c.ps[p] = 1 + c.nodes * (-1) by omega, Int.add_mul_emod_self_left]
                exact Int.emod_eq_of_lt (by omega) (by omega)
              · rw [Int.emod_eq_of_lt (a := c.ps[p] + 1) (by omega) (by omega), show c.ps[p] + 1 - c.ps[p] = 1 by omega]
                exact Int.emod_eq_of_lt (by omega) (by omega)
          obtain ⟨a, o, d, f1, f2, f3, f4, f5, f6⟩ := key
          have hpm : p < pn := by rw [← HP1.out]; exact hpl
          have HPF := Lib.hid hp
          have dp : decide ((pn : Int) ≤ (p : Int)) = false := decide_eq_false (by omega)
          have dp' : decide (pn ≤ p) = false := decide_eq_false (by omega)
          have cl := cntP_le c p k
          go_wp2_with fail
          refine (EPa.out _ _ HR.out.below).mono ?_
          rintro e w4 ⟨rfl, rfl⟩
          rw [hp]
          clear hp hpl ho
          go_wp2_with fail
          refine (EPr.out _ _ HR.out.below).mono ?_
          rintro e w4 ⟨rfl, n1, rfl⟩
          rw [f2]
          have HR1 := Lib.hid (HR.out.drawn n1)
          clear f2
          go_wp2_with fail
          refine (EPr.out _ _ HR1.out.below).mono ?_
          rintro e w4 ⟨rfl, n2, rfl⟩
          rw [f3]
          have HR2 := Lib.hid (HR.out.drawn (n1 + n2))
          clear f3
          go_wp2_with fail
          refine (EPa.out _ _ HR2.out.below).mono ?_
          rintro e w4 ⟨rfl, rfl⟩
          rw [f4]
          clear f4
          have cp : wr.cell? ⟨w3.heap.size, p, none⟩ = some (.int .i64 (cntP c p k)) := HR.out.cell p hpm
          have fp : wr.frozen? ⟨w3.heap.size, p, none⟩ = false := heap_thawed HR.out.row p
          have HR3s := Lib.hid (HR2.out.step hpm HPF.out)
          go_wp2_with fail
          obtain ⟨w5, hw5⟩ : ∃ w5, w5 = (wr.drewN (n1 + n2)).setCell ⟨w3.heap.size, p, none⟩ (.int .i64 ((cntP c p k : Int) + 1)) := ⟨_, rfl⟩
          have hw5' : w5 = (wr.setCell ⟨w3.heap.size, p, none⟩ (.int .i64 ((cntP c p k : Int) + 1))).drewN (n1 + n2) := by rw [hw5]; rfl
          first | rw [← hw5] | rw [← hw5']
          rw [← hw5] at HR3s
          have v0 : w5.cell? ⟨w.heap.size, 0, none⟩ = some (.int .i64 nodes) := heap_cell ((HR3s.out.below.block _ (Array.getElem?_eq_some_iff.1 HR3.out).1).trans HR3.out) 0
          clear hw5 hw5' cp fp HR1 HR2 HR z0 z1
          have q1 := fun n : Nat => EFi.out (w5.drewN n) p (below_drewN HR3s.out.below n)
          have q2 := fun n : Nat => EDi.out (w5.drewN n) a k (below_drewN HR3s.out.below n)
          rw [f1] at q1
          rw [f5] at q2
          have Q1 := Lib.hid q1
          have Q2 := Lib.hid q2
          clear q1 q2
          go_quiet (first | (go_at_call 38; exact quiet_eq (Q1.out _)) | (go_at_call 44; exact quiet_dr (Q2.out _)))
          clear f1 f5
          rcases f6 with ⟨rfl, rfl⟩ | ⟨f7, rfl⟩
          · go_wp2_with (first | (go_at_call 38; refine (Q1.out _).mono ?_; rintro e w' ⟨rfl, rfl⟩) | fail)
            go_roundw
            case rel => exact ⟨k + 1, by omega, by go_num, Lib.hid (HR3s.out.drawn _)⟩
            case measure => simp [intOf]; omega
          · have b1 : ((k : Int) == a) = false := by simpa using f7
            have b2 : ((k : Int) != a) = true := by simpa using f7
            go_wp2_with (first | (go_at_call 38; refine (Q1.out _).mono ?_; rintro e w' ⟨rfl, rfl⟩) | fail)
            go_roundw
            case rel => exact ⟨k + 1, by omega, by go_num, Lib.hid (HR3s.out.drawn _)⟩
            case measure => simp [intOf]; omega
      · have hkn : k = c.nodes.toNat := by rw [HN1.out]; omega
        have hmask := mask40 slot
        obtain ⟨A, hA⟩ : ∃ A, A = bits .and .i64 slot 1099511627775 := ⟨_, rfl⟩
        rw [← hA] at hmask
        have a0 := hmask.1
        have a1 := hmask.2
        have HA := Lib.hid hA
        clear hA hmask
        have HK := Lib.hid hkn
        clear hkn
        go_wp2_with fail
        rw [← HA.out]
        clear hlt
        go_loopw [13] (fun i w9 => ∃ (j q : Nat), j ≤ pn ∧ i = .int .i64 j ∧ w9 = wr.drewN q) (fun i _ => pn - (intOf i).toNat)
        case atStart => exact ⟨0, 0, Nat.zero_le _, rfl, rfl⟩
        case round =>
          obtain ⟨j, q, hj, rfl, rfl⟩ := hrel
          by_cases hjl : j < pn
          · have hjp : j < c.ps.length := by rw [HP1.out]; exact hjl
            have c2 : wr.cell? ⟨w3.heap.size, j, none⟩ = some (.int .i64 2) := by
              have := HR.out.cell j hjl
              rw [HK.out, cntP_two HOK.out j hjp] at this
              exact this
            have s2 : wr.cell? ⟨w.heap.size, 2, none⟩ = some (.slice sa sn sc) := heap_cell ((HR.out.below.block _ (Array.getElem?_eq_some_iff.1 HR3.out).1).trans HR3.out) 2
            have hs1 := HOK.out.s1
            have hs16 := HOK.out.s16
            rw [HS1.out] at hs1 hs16
            have hnx := next_ok HOK.out j hjp A
            have hns := nextslot_any b npa nsa nba nta nqa c HOK.out A (j : Int) (wr.drewN q) (HV.out.below (below_drewN HR.out.below q))
            have hf : nextSlotF c.pairs c A (j : Int) = nextS c.ss j c.ss.length A := by
              unfold nextSlotF
              rw [if_neg]
              rintro (h | h | h)
              · omega
              · omega
              · rw [first_at HOK.out j hjp] at h
                have := HOK.out.pin c.ps[j] (List.getElem_mem _)
                omega
            rw [hf] at hns
            generalize nextS c.ss j c.ss.length A = r at hns hnx
            obtain ⟨x1, x2, x3, _⟩ := hnx
            rw [HS1.out] at x2 x3
            have hm : (sn : Int) ≠ 0 := by omega
            have y0 := Int.emod_nonneg r hm
            have y1 := Int.emod_lt_of_pos r (show 0 < (sn : Int) by omega)
            obtain ⟨y, hy⟩ : ∃ y : Nat, r % sn = y := ⟨(r % sn).toNat, by omega⟩
            rw [hy] at x3
            have how : ∀ W, Below w3.heap.size w3 W → Calls Tryd.prog 37 #[.pointer (some ⟨b, 0, none⟩), .int .i64 (y : Int)] W fun e w' => e = .returned (.int .i64 (j : Int)) ∧ W = w' := fun W hb => by
              have h := owner_any (some ⟨b, 0, none⟩) c c.pairs (y : Int) W (HNP.out.below hb)
              have e : fromL c.pairs c.ss (y : Int) = j := by
                unfold fromL
                rw [if_pos (pairs_pos' HOK.out)]
                unfold atL
                rw [if_pos (by have := HS1.out; omega)]
                exact x3
              rw [e] at h
              exact h
            have htm : r.tmod (sn : Int) = (y : Int) := by rw [Int.tmod_eq_emod_of_nonneg (by omega)]; exact hy
            have hm0 : ¬ sn = 0 := by omega
            have HOW := Lib.hid how
            have e1 : decide (r < A) = false := decide_eq_false (by omega)
            have e2 : decide (A + (sn : Int) ≤ r) = false := decide_eq_false (by omega)
            have w1 : IntKind.i64.wrap (sn : Int) = sn := by rw [IntKind.wrap_i64]; omega
            have w2 : IntKind.i64.wrap (y : Int) = y := by rw [IntKind.wrap_i64]; omega
            have hyl : (y : Int) < sn := by omega
            clear how hf x3 hy y0 y1
            go_wp2_with fail
            refine hns.mono ?_
            rintro e w9 ⟨rfl, n9, rfl⟩
            go_wp2_with fail
            refine (HOW.out _ (below_drewN HR.out.below _)).mono ?_
            rintro e w9 ⟨rfl, rfl⟩
            go_wp2
            go_roundw
            case rel => exact ⟨j + 1, _, by omega, by go_num, rfl⟩
            case measure => simp [intOf]; omega
          · have s2 : wr.cell? ⟨w.heap.size, 2, none⟩ = some (.slice sa sn sc) := heap_cell ((HR.out.below.block _ (Array.getElem?_eq_some_iff.1 HR3.out).1).trans HR3.out) 2
            have s3 : wr.cell? ⟨w.heap.size, 3, none⟩ = some (.int .i64 long) := heap_cell ((HR.out.below.block _ (Array.getElem?_eq_some_iff.1 HR3.out).1).trans HR3.out) 3
            have hok := HOK.out
            have hcl : c.long = long := by rw [HCC.out]
            have hv : roundF c.pairs c = long * sn := by
              unfold roundF
              rw [if_pos (pairs_pos' hok), HS1.out, hcl, Int.mul_comm]
            have hrd : ∀ W, Below w3.heap.size w3 W → Calls Tryd.prog 36 #[.pointer (some ⟨b, 0, none⟩)] W fun e w' => e = .returned (.int .i64 (long * sn)) ∧ Below w3.heap.size w3 w' := fun W hb => by
              have h := netround_any (some ⟨b, 0, none⟩) c c.pairs W (HNP.out.below hb) (fun _ => ⟨hok.s16, by have := hok.l1; have := hok.n4; omega, hok.l2⟩)
              rw [hv] at h
              exact h.mono fun e w' ⟨h1, k, h2⟩ => ⟨h1, by rw [h2]; exact below_drewN hb k⟩
            have HRD := Lib.hid hrd
            have keep : ∀ W, Below w3.heap.size w3 W → W.cell? ⟨w.heap.size, 2, none⟩ = some (.slice sa sn sc) ∧ W.cell? ⟨w.heap.size, 3, none⟩ = some (.int .i64 long) ∧ Hid (Below w3.heap.size w3 W) := fun W hb => ⟨heap_cell ((hb.block _ (Array.getElem?_eq_some_iff.1 HR3.out).1).trans HR3.out) 2, heap_cell ((hb.block _ (Array.getElem?_eq_some_iff.1 HR3.out).1).trans HR3.out) 3, Lib.hid hb⟩
            have KP := Lib.hid keep
            have HDq := Lib.hid (below_drewN HR.out.below q).drew
            clear keep hrd
            have hb1 : 0 ≤ long * (sn : Int) ∧ long * (sn : Int) ≤ 4096 * 16 := by
              have := hok.l1
              have := hok.l2
              have := hok.n4
              have := hok.s16
              have := HS1.out
              exact ⟨Int.mul_nonneg (by omega) (by omega), Int.mul_le_mul (by omega) (by omega) (by omega) (by omega)⟩
            have hw : wrap64 (long * (sn : Int)) = long * (sn : Int) := by unfold wrap64; omega
            have hw2 : IntKind.i64.wrap (long * (sn : Int)) = long * (sn : Int) := by rw [IntKind.wrap_i64]; omega
            have hl9 : ∀ W, Below w3.heap.size w3 W → Calls Tryd.prog 31 #[] W fun e w' => e = .returned (.bool true) ∧ Below w3.heap.size w3 w' := fun W hb => by
              have h := lives04_any W (HS.out.below (HB3.out.trans (hb.mono HB3.out.size)))
              exact h.mono fun e w' ⟨h1, h2⟩ => ⟨h1, hb.trans (h2.mono hb.size)⟩
            have HL9 := Lib.hid hl9
            clear hl9 hv hcl hb1 hok
            have hlw : IntKind.i64.wrap long = long := by
              have := HOK.out.l1
              have := HOK.out.l2
              have := HOK.out.n4
              have h9 : c.long = long := by rw [HCC.out]
              rw [IntKind.wrap_i64]; omega
            have hsw : IntKind.i64.wrap (sn : Int) = sn := by
              have := HOK.out.s16
              have := HS1.out
              rw [IntKind.wrap_i64]; omega
            go_wp2_with fail
            go_region_held3 (fun W => W.cell? ⟨w.heap.size, 2, none⟩ = some (.slice sa sn sc) ∧ W.cell? ⟨w.heap.size, 3, none⟩ = some (.int .i64 long) ∧ Hid (Below w3.heap.size w3 W)) (first | exact KP.out _ HDq.out | exact KP.out _ hl8 | exact KP.out _ hr8 | fail) (first | (go_at_call 36; refine (HRD.out _ HDq.out).mono ?_; rintro e w8 ⟨rfl, hr8⟩) | (go_at_call 31; refine (HL9.out _ hr8).mono ?_; rintro e w8 ⟨rfl, hl8⟩) | fail)
            go_wp2
            go_ret
            exact ⟨rfl, HB3.out.trans (hl8.mono HB3.out.size)⟩
end Go.Proofs.YtibncdkekceokaaDoor
