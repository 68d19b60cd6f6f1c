/- sennitref10.Of, Guards and Over, called. -/
import Derived.Test.YtibncdkekceokaaDoorRef10
namespace Go.Proofs.YtibncdkekceokaaDoor
open Go.RowKit

attribute [local go_sem ↓ high] cfgLoad_eq
attribute [local go_sem high] run_cfgLoad run_cfgLoad_new run_cfgLoad_new2
theorem refof_any (nodes long miss good fresh : Int) (pa sa ba ta : Option Addr) (pn pc sn sc bn bc tn tc : Nat) (ps ss bs : List Int) (ts : List (Int × Int × Int)) (w : World) (hC : CfgIn w nodes long miss good fresh pa sa ba ta pn pc sn sc bn bc tn tc ps ss bs ts) (d o i r p b e er : Int) (k : Nat)
    (hf : PWindowsOf.sennitref10_Of.f k nodes ps ss long bs (ts.map toSw) miss good fresh d o i = some (r, p, b, e, er)) :
    Calls Tryd.prog 49 #[.agg #[.int .i64 nodes, .slice pa pn pc, .slice sa sn sc, .int .i64 long, .slice ba bn bc, .slice ta tn tc, .int .i64 miss, .int .i64 good, .int .i64 fresh], .int .u8 d, .int .i64 o, .int .i64 i] w fun en w' => en = .returned (.tuple #[.agg #[.int .i64 r, .int .i64 p, .int .i64 b, .int .i64 e], .int .i64 er]) ∧ Below w.heap.size w w' := by
  have e1 := hC.rp.len
  have e2 := hC.rs.len
  have e3 := hC.rb.len
  have e4 : (ts.map toSw).length = tn := by rw [List.length_map]; exact hC.rt.len
  have h := PWindowsOf.sennitref10_Of.calls k nodes pa pc ps sa sc ss long ba bc bs ta tc (ts.map toSw) miss good fresh d o i r p b e er w
    hC.rp.kd (by rw [e1]; exact hC.op.le) hC.rs.kd (by rw [e2]; exact hC.os.le) hC.rb.kd (by rw [e3]; exact hC.ob.le) hC.rt.kdw (by rw [e4]; exact hC.ot.le) hf
  rw [e1, e2, e3, e4] at h
  exact h
theorem refover_any (nodes long miss good fresh : Int) (pa sa ba ta : Option Addr) (pn pc sn sc bn bc tn tc : Nat) (ps ss bs : List Int) (ts : List (Int × Int × Int)) (w : World) (hC : CfgIn w nodes long miss good fresh pa sa ba ta pn pc sn sc bn bc tn tc ps ss bs ts) (h4 : 4 ≤ nodes) (h16 : nodes ≤ 16) (hp : 0 < ps.length) (a0 : 0 ≤ ps.getD 0 0) (a1 : ps.getD 0 0 < nodes) :
    Calls Tryd.prog 56 #[.agg #[.int .i64 nodes, .slice pa pn pc, .slice sa sn sc, .int .i64 long, .slice ba bn bc, .slice ta tn tc, .int .i64 miss, .int .i64 good, .int .i64 fresh]] w fun en w' => en = .returned (.int .i64 (nodes + 114)) ∧ Below w.heap.size w w' := by
  have e1 := hC.rp.len
  have e2 := hC.rs.len
  have e3 := hC.rb.len
  have e4 : (ts.map toSw).length = tn := by rw [List.length_map]; exact hC.rt.len
  have h := PWindowsOf.sennitref10_Over.calls 100 nodes pa pc ps sa sc ss long ba bc bs ta tc (ts.map toSw) miss good fresh (nodes + 114) w
    hC.rp.kd (by rw [e1]; exact hC.op.le) hC.rs.kd (by rw [e2]; exact hC.os.le) hC.rb.kd (by rw [e3]; exact hC.ob.le) hC.rt.kdw (by rw [e4]; exact hC.ot.le) (over_f nodes ps ss long bs (ts.map toSw) miss good fresh h4 h16 hp a0 a1)
  rw [e1, e2, e3, e4] at h
  exact h

/-- What stands of a guard when so many nodes have been looked at. -/
def cellAt (G : Int) (j : Nat) : Int := if G < j then G else -1
def arrG (G0 G1 : Int) (k j : Nat) : Array Value := #[.int .i64 (if k = 0 then cellAt G0 j else G0), .int .i64 (if k = 0 then -1 else cellAt G1 j)]
structure GRel (w wr : World) (nodes long miss good fresh : Int) (pa sa ba ta : Option Addr) (pn pc sn sc bn bc tn tc : Nat) (G0 G1 : Int) (k j : Nat) : Prop where
  below : Below w.heap.size w wr
  cfg : wr.heap[w.heap.size]? = some (.cells #[.int .i64 nodes, .slice pa pn pc, .slice sa sn sc, .int .i64 long, .slice ba bn bc, .slice ta tn tc, .int .i64 miss, .int .i64 good, .int .i64 fresh] 25 (0, 0))
  arr : wr.heap[w.heap.size + 1]? = some (.cells (arrG G0 G1 k j) 54 (0, 0))
theorem GRel.later {w wr w' : World} {nodes long miss good fresh : Int} {pa sa ba ta : Option Addr} {pn pc sn sc bn bc tn tc : Nat} {G0 G1 : Int} {k j : Nat} (h : GRel w wr nodes long miss good fresh pa sa ba ta pn pc sn sc bn bc tn tc G0 G1 k j) (hb : Below wr.heap.size wr w') : GRel w w' nodes long miss good fresh pa sa ba ta pn pc sn sc bn bc tn tc G0 G1 k j :=
  ⟨h.below.trans (hb.mono h.below.size), row_later h.cfg hb (Nat.le_refl _), row_later h.arr hb (Nat.le_refl _)⟩
theorem GRel.skip {w wr : World} {nodes long miss good fresh : Int} {pa sa ba ta : Option Addr} {pn pc sn sc bn bc tn tc : Nat} {G0 G1 : Int} {k j : Nat} (h : GRel w wr nodes long miss good fresh pa sa ba ta pn pc sn sc bn bc tn tc G0 G1 k j) (hk : k < 2) (hn : (j : Int) ≠ if k = 0 then G0 else G1) : GRel w wr nodes long miss good fresh pa sa ba ta pn pc sn sc bn bc tn tc G0 G1 k (j + 1) := by
  refine ⟨h.below, h.cfg, ?_⟩
  have e : arrG G0 G1 k (j + 1) = arrG G0 G1 k j := by
    unfold arrG cellAt
    obtain rfl | rfl : k = 0 ∨ k = 1 := by omega
    · rw [if_pos rfl] at hn
      simp only [if_true]
      (repeat' split) <;> first | rfl | omega
    · rw [if_neg (by omega)] at hn
      simp only [show ¬ (1 : Nat) = 0 by omega, if_false]
      (repeat' split) <;> first | rfl | omega
  rw [e]; exact h.arr
theorem GRel.hit {w wr : World} {nodes long miss good fresh : Int} {pa sa ba ta : Option Addr} {pn pc sn sc bn bc tn tc : Nat} {G0 G1 : Int} {k j : Nat} (h : GRel w wr nodes long miss good fresh pa sa ba ta pn pc sn sc bn bc tn tc G0 G1 k j) (hk : k < 2) (hn : (j : Int) = if k = 0 then G0 else G1) : GRel w (wr.setCell ⟨w.heap.size + 1, k, none⟩ (.int .i64 (j : Int))) nodes long miss good fresh pa sa ba ta pn pc sn sc bn bc tn tc G0 G1 k (j + 1) := by
  refine ⟨h.below.setCell (Nat.le_succ _) _, ?_, ?_⟩
  · have := Below.heap_setCell wr ⟨w.heap.size + 1, k, none⟩ (.int .i64 (j : Int)) w.heap.size (by simp)
    rw [this]; exact h.cfg
  · rw [heap_set_same h.arr]
    obtain rfl | rfl : k = 0 ∨ k = 1 := by omega
    · rw [if_pos rfl] at hn
      have : cellAt G0 (j + 1) = j := by unfold cellAt; rw [if_pos (by omega)]; exact hn.symm
      simp only [arrG, if_true, this]
      rfl
    · rw [if_neg (by omega)] at hn
      have : cellAt G1 (j + 1) = j := by unfold cellAt; rw [if_pos (by omega)]; exact hn.symm
      simp only [arrG, show ¬ (1 : Nat) = 0 by omega, if_false, this]
      rfl
theorem GRel.cell {w wr : World} {nodes long miss good fresh : Int} {pa sa ba ta : Option Addr} {pn pc sn sc bn bc tn tc : Nat} {G0 G1 : Int} {k j : Nat} (h : GRel w wr nodes long miss good fresh pa sa ba ta pn pc sn sc bn bc tn tc G0 G1 k j) (hk : k < 2) : (∃ v, wr.cell? ⟨w.heap.size + 1, k, none⟩ = some v) ∧ wr.frozen? ⟨w.heap.size + 1, k, none⟩ = false := by
  refine ⟨?_, heap_thawed h.arr k⟩
  obtain rfl | rfl : k = 0 ∨ k = 1 := by omega
  · exact ⟨_, heap_cell h.arr 0⟩
  · exact ⟨_, heap_cell h.arr 1⟩

/-- The guard of an owner: it alone stands at its place. -/
theorem guard_only {n d a j : Int} (h4 : 4 ≤ n) (h16 : n ≤ 16) (hd : d = 0 ∨ d = 1) (a0 : 0 ≤ a) (a1 : a < n) (j0 : 0 ≤ j) (j1 : j < n) : plG n d a j = 2 ↔ j = (if d = 0 then stepF n 0 a 2 else stepF n 1 a 1) := by
  rcases hd with rfl | rfl
  · rw [if_pos rfl, stepF_cw h4 h16 a0 a1 (by omega) (by omega)]
    unfold plG onG
    rw [if_pos rfl]
    (repeat' split) <;> omega
  · rw [if_neg (by omega), stepF_ccw h4 h16 a0 a1 (by omega) (by omega)]
    unfold plG onG
    rw [if_neg (by omega)]
    (repeat' split) <;> omega
section
variable {c : Cfg} (h : CfgOK c)
include h
theorem guard_in (owner d : Int) (hd : d = 0 ∨ d = 1) : -1 ≤ guardF c.pairs c owner d ∧ guardF c.pairs c owner d < c.nodes := by
  have h4 := h.n4
  have h16 := h.n16
  unfold guardF
  by_cases hf : fromL c.pairs c.ps owner = -1
  · rw [if_pos hf]; omega
  · rw [if_neg hf]
    have hin : 0 ≤ owner ∧ owner < c.ps.length := by
      apply Classical.byContradiction
      intro hn
      exact hf (first_none h owner hn)
    obtain ⟨p, rfl⟩ : ∃ p : Nat, owner = p := ⟨owner.toNat, by omega⟩
    rw [first_at h p (by omega)]
    have hb := first_in h p (by omega)
    rcases hd with rfl | rfl
    · rw [if_pos rfl, stepF_cw h4 h16 hb.1 hb.2 (by omega) (by omega)]
      unfold onG
      (repeat' split) <;> omega
    · rw [if_neg (by omega), stepF_ccw h4 h16 hb.1 hb.2 (by omega) (by omega)]
      unfold onG
      (repeat' split) <;> omega
end
set_option maxRecDepth 100000 in
set_option maxHeartbeats 4000000 in
theorem refguards_any (nodes long miss good fresh : Int) (pa sa ba ta : Option Addr) (pn pc sn sc bn bc tn tc : Nat) (ps ss bs : List Int) (ts : List (Int × Int × Int)) (owner : Int) (c : Cfg) (hc : c = Cfg.mk nodes long miss good fresh ps ss bs ts) (hok : CfgOK c) (w : World) (hC : CfgIn w nodes long miss good fresh pa sa ba ta pn pc sn sc bn bc tn tc ps ss bs ts) :
    Calls Tryd.prog 54 #[.agg #[.int .i64 nodes, .slice pa pn pc, .slice sa sn sc, .int .i64 long, .slice ba bn bc, .slice ta tn tc, .int .i64 miss, .int .i64 good, .int .i64 fresh], .int .i64 owner] w fun e w' => e = .returned (.tuple #[.int .i64 (guardF c.pairs c owner 0), .int .i64 (guardF c.pairs c owner 1)]) ∧ Below w.heap.size w w' := by
  obtain ⟨G0, hG0⟩ : ∃ G0, G0 = guardF c.pairs c owner 0 := ⟨_, rfl⟩
  obtain ⟨G1, hG1⟩ : ∃ G1, G1 = guardF c.pairs c owner 1 := ⟨_, rfl⟩
  have hcn : c.nodes = nodes := by rw [hc]
  have hcp : c.ps = ps := by rw [hc]
  have h4 : 4 ≤ nodes := by have := hok.n4; omega
  have h16 : nodes ≤ 16 := by have := hok.n16; omega
  have g0 := guard_in hok owner 0 (.inl rfl)
  have g1 := guard_in hok owner 1 (.inr rfl)
  rw [← hG0, hcn] at g0
  rw [← hG1, hcn] at g1
  have REF : ∀ (k j : Nat), k < 2 → (j : Int) < nodes → ∃ r p b e er : Int, (∀ W, Below w.heap.size w W → Calls Tryd.prog 49 #[.agg #[.int .i64 nodes, .slice pa pn pc, .slice sa sn sc, .int .i64 long, .slice ba bn bc, .slice ta tn tc, .int .i64 miss, .int .i64 good, .int .i64 fresh], .int .u8 (k : Int), .int .i64 owner, .int .i64 (j : Int)] W fun en w' => en = .returned (.tuple #[.agg #[.int .i64 r, .int .i64 p, .int .i64 b, .int .i64 e], .int .i64 er]) ∧ Below W.heap.size W w') ∧
      (((j : Int) = (if k = 0 then G0 else G1) ∧ er = 0 ∧ r = 2) ∨ ((j : Int) ≠ (if k = 0 then G0 else G1) ∧ ((er == 0) = false ∨ er = 0 ∧ (r == 2) = false))) := fun k j hk hj => by
    have hd : (k : Int) = 0 ∨ (k : Int) = 1 := by omega
    have hgk : (if k = 0 then G0 else G1) = guardF c.pairs c owner k := by
      obtain rfl | rfl : k = 0 ∨ k = 1 := by omega
      · rw [if_pos rfl, hG0]; rfl
      · rw [if_neg (by omega), hG1]; rfl
    by_cases hv : 0 ≤ owner ∧ owner < ps.length
    · obtain ⟨q, rfl⟩ : ∃ q : Nat, owner = q := ⟨owner.toNat, by omega⟩
      have hq : q < ps.length := by omega
      have hqc : q < c.ps.length := by rw [hcp]; exact hq
      have hg : c.ps[q] = ps.getD q 0 := by
        rw [List.getD_eq_getElem?_getD, ← hcp, List.getElem?_eq_getElem hqc]; rfl
      have ha := first_in hok q hqc
      rw [hg, hcn] at ha
      have hof := of_good nodes ps ss long bs (ts.map toSw) miss good fresh 30 (by omega) h4 h16 hd q hq ha.1 ha.2 (j : Int) (by omega) hj
      refine ⟨_, _, _, _, _, fun W hb => refof_any nodes long miss good fresh pa sa ba ta pn pc sn sc bn bc tn tc ps ss bs ts W (hC.below hb) _ _ _ _ _ _ _ _ 30 hof, ?_⟩
      have hgf : guardF c.pairs c (q : Int) k = (if (k : Int) = 0 then stepF nodes 0 (ps.getD q 0) 2 else stepF nodes 1 (ps.getD q 0) 1) := by
        unfold guardF
        rw [first_at hok q hqc, hg, hcn, if_neg (by omega)]
      have hon := guard_only h4 h16 hd ha.1 ha.2 (show (0 : Int) ≤ j by omega) hj
      rw [hgk, hgf]
      by_cases e : plG nodes k (ps.getD q 0) j = 2
      · left
        exact ⟨hon.1 e, rfl, by rw [e]; rfl⟩
      · right
        refine ⟨mt hon.2 e, .inr ⟨rfl, ?_⟩⟩
        unfold roleF
        split
        · rfl
        · first | rfl | (rw [if_neg e]; rfl)
    · have hof := of_bad nodes ps ss long bs (ts.map toSw) miss good fresh 30 (by omega) (d := (k : Int)) (o := owner) (i := (j : Int)) (by omega)
      refine ⟨_, _, _, _, _, fun W hb => refof_any nodes long miss good fresh pa sa ba ta pn pc sn sc bn bc tn tc ps ss bs ts W (hC.below hb) _ _ _ _ _ _ _ _ 30 hof, .inr ⟨?_, .inl rfl⟩⟩
      rw [hgk]
      unfold guardF
      rw [if_pos (first_none hok owner (by rw [hcp]; exact hv))]
      omega
  rw [← hG0, ← hG1]
  have HREF := Lib.hid REF
  have n0 := h4
  have b0 : Below w.heap.size w ((w.alloc (.cells #[.int .i64 nodes, .slice pa pn pc, .slice sa sn sc, .int .i64 long, .slice ba bn bc, .slice ta tn tc, .int .i64 miss, .int .i64 good, .int .i64 fresh] 25)).alloc (.cells #[.int .i64 (-1), .int .i64 (-1)] 54)) := ((Below.refl w.heap.size w).alloc (Nat.le_refl _) _).alloc (by simp) _
  have HR0 : Hid (GRel w ((w.alloc (.cells #[.int .i64 nodes, .slice pa pn pc, .slice sa sn sc, .int .i64 long, .slice ba bn bc, .slice ta tn tc, .int .i64 miss, .int .i64 good, .int .i64 fresh] 25)).alloc (.cells #[.int .i64 (-1), .int .i64 (-1)] 54)) nodes long miss good fresh pa sa ba ta pn pc sn sc bn bc tn tc G0 G1 0 0) := Lib.hid ⟨b0, heap_alloc2_old w _ _, by
    have e : arrG G0 G1 0 0 = #[.int .i64 (-1), .int .i64 (-1)] := by
      unfold arrG cellAt
      simp only [if_true]
      split
      · rw [show G0 = -1 by omega]
      · rfl
    rw [e]; exact heap_new _ _ _ (by simp)⟩
  have HG := Lib.hid (⟨g0, g1⟩ : _ ∧ _)
  clear REF hG0 hG1 hcn hcp g0 g1 b0 hc hok hC
  go_enter Tryd.func54, Tryd.ntmps54
  go_wp2_with fail
  go_loopw [7] (fun d wr => ∃ k : Nat, k ≤ 2 ∧ d = .int .u8 k ∧ Hid (GRel w wr nodes long miss good fresh pa sa ba ta pn pc sn sc bn bc tn tc G0 G1 (if k = 2 then 1 else k) (if k = 2 then nodes.toNat else 0))) (fun d _ => 2 - (intOf d).toNat)
  case atStart => exact ⟨0, by omega, rfl, HR0⟩
  case round =>
    clear HR0
    obtain ⟨k, hk, rfl, HW⟩ := hrel
    obtain ⟨W0, hW0⟩ : ∃ W0 : World, W0 = wr := ⟨_, rfl⟩
    subst hW0
    by_cases hlt : k < 2
    · have HW2 : Hid (GRel w W0 nodes long miss good fresh pa sa ba ta pn pc sn sc bn bc tn tc G0 G1 k 0) := Lib.hid (by have := HW.out; rw [if_neg (by omega), if_neg (by omega)] at this; exact this)
      have dk : decide ((k : Int) ≤ 1) = true := decide_eq_true (by omega)
      clear HW
      go_wp2_with fail
      go_loopw [8] (fun i wx => ∃ j : Nat, (j : Int) ≤ nodes ∧ i = .int .i64 j ∧ Hid (GRel w wx nodes long miss good fresh pa sa ba ta pn pc sn sc bn bc tn tc G0 G1 k j)) (fun i _ => nodes.toNat - (intOf i).toNat)
      case atStart => exact ⟨0, by omega, rfl, HW2⟩
      case round =>
        clear HW2
        obtain ⟨j, hj, rfl, HX⟩ := hrel
        obtain ⟨X0, hX0⟩ : ∃ X0 : World, X0 = wr := ⟨_, rfl⟩
        subst hX0
        have zr := HX.out.cfg
        have z0 : X0.cell? ⟨w.heap.size, 0, none⟩ = some (.int .i64 nodes) := heap_cell zr 0
        by_cases hjl : (j : Int) < nodes
        · obtain ⟨r, p, b, e, er, DC, hcase⟩ := HREF.out k j hlt hjl
          have HDC := Lib.hid (DC X0 HX.out.below)
          clear DC
          go_wp2_with fail
          refine HDC.out.mono ?_
          rintro en X1 ⟨rfl, hb1⟩
          have HX1 := Lib.hid (HX.out.later hb1)
          have HX2 := Lib.hid (HX1.out.later ((Below.refl X1.heap.size X1).alloc (Nat.le_refl _) (.cells #[.int .i64 r, .int .i64 p, .int .i64 b, .int .i64 e] 76)))
          clear zr z0 hb1 HDC
          rcases hcase with ⟨hh, rfl, rfl⟩ | ⟨hh, h1 | ⟨rfl, h1⟩⟩
          · obtain ⟨⟨v, cv⟩, fv⟩ := HX1.out.cell hlt
            have sx : w.heap.size + 1 < X1.heap.size := (Array.getElem?_eq_some_iff.1 HX1.out.arr).1
            have HH := Lib.hid hh
            clear hh
            go_wp2
            go_roundw
            case rel => exact ⟨j + 1, by omega, by go_num, by first | exact Lib.hid (HX2.out.hit hlt HH.out) | exact Lib.hid ((HX1.out.hit hlt HH.out).later ((Below.refl _ _).alloc (Nat.le_refl _) _))⟩
            case measure => simp [intOf]; omega
          · have HH := Lib.hid hh
            clear hh
            go_wp2
            go_roundw
            case rel => exact ⟨j + 1, by omega, by go_num, Lib.hid (HX2.out.skip hlt HH.out)⟩
            case measure => simp [intOf]; omega
          · have HH := Lib.hid hh
            clear hh
            go_wp2
            go_roundw
            case rel => exact ⟨j + 1, by omega, by go_num, Lib.hid (HX2.out.skip hlt HH.out)⟩
            case measure => simp [intOf]; omega
        · go_wp2
          go_roundw
          case rel => exact ⟨k + 1, by omega, by go_num, Lib.hid (by
            have h1 := HX.out
            have hg := HG.out
            rw [show j = nodes.toNat by omega] at h1
            obtain rfl | rfl : k = 0 ∨ k = 1 := by omega
            · refine ⟨h1.below, h1.cfg, ?_⟩
              have e : arrG G0 G1 (if 0 + 1 = 2 then 1 else 0 + 1) (if 0 + 1 = 2 then nodes.toNat else 0) = arrG G0 G1 0 nodes.toNat := by
                simp only [arrG, cellAt, if_true, show ¬ (0 + 1 = 2) by omega, show ¬ (0 + 1 = 0) by omega, if_false]
                rw [if_pos (show G0 < (nodes.toNat : Int) by omega)]
                split
                · rw [show G1 = -1 by omega]
                · rfl
              rw [e]; exact h1.arr
            · exact h1)⟩
          case measure => simp [intOf]; omega
    · have hk2 : k = 2 := by omega
      subst hk2
      have row := HW.out.arr
      have hg := HG.out
      have e : arrG G0 G1 1 nodes.toNat = #[.int .i64 G0, .int .i64 G1] := by
        simp only [arrG, cellAt, show ¬ (1 : Nat) = 0 by omega, if_false]
        rw [if_pos (show G1 < (nodes.toNat : Int) by omega)]
      rw [if_pos rfl, if_pos rfl, e] at row
      have c0 : W0.cell? ⟨w.heap.size + 1, 0, none⟩ = some (.int .i64 G0) := heap_cell row 0
      have c1 : W0.cell? ⟨w.heap.size + 1, 1, none⟩ = some (.int .i64 G1) := heap_cell row 1
      have HWB := Lib.hid HW.out.below
      clear row e hg
      go_wp2
      go_quiet (fail)
      try go_wp2
      go_ret2
      exact ⟨rfl, below_drewN HWB.out _⟩
end Go.Proofs.YtibncdkekceokaaDoor
