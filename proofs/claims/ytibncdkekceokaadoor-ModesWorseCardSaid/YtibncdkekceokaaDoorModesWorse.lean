/- sennitlaw25.ModesWorse: the walk. -/
import Derived.Test.YtibncdkekceokaaDoorLives25
namespace Go.Proofs.YtibncdkekceokaaDoor
open Go.RowKit

theorem inN_less (f : Nat → Int) (ins : Nat → Bool) (p : Nat) (k : Nat) : inN f (setIns ins p false) k ≤ inN f ins k := by
  induction k with
  | zero => exact Nat.le_refl _
  | succ k ih =>
    simp only [inN]
    by_cases h1 : f k < 0
    · rw [if_pos h1, if_pos h1]; omega
    · rw [if_neg h1, if_neg h1]
      by_cases h2 : k = p
      · rw [show setIns ins p false k = false by simp [setIns, h2]]
        simp only [Bool.false_eq_true, if_false]
        omega
      · rw [show setIns ins p false k = ins k by simp [setIns, h2]]
        omega
theorem inN_skip (f : Nat → Int) (ins : Nat → Bool) (p : Nat) (b : Bool) (hp : f p < 0) (k : Nat) : inN f (setIns ins p b) k = inN f ins k := by
  induction k with
  | zero => rfl
  | succ k ih =>
    simp only [inN]
    rw [ih]
    by_cases h1 : f k < 0
    · rw [if_pos h1, if_pos h1]
    · rw [if_neg h1, if_neg h1]
      have h2 : k ≠ p := fun e => h1 (e ▸ hp)
      simp only [setIns, h2, if_false]
theorem asks_less (f : Nat → Int) (ins : Nat → Bool) (p : Nat) (cmd : Int) : asksF f ins cmd ≤ asksF f (setIns ins p false) cmd := by
  have h1 := inN_less f ins p 8
  have h2 := inN_le f ins 8
  unfold asksF
  generalize inN f ins 8 = m at h1 h2 ⊢
  generalize inN f (setIns ins p false) 8 = m' at h1 ⊢
  generalize allN f 8 = n at h2 ⊢
  repeat' split
  all_goals omega
theorem asks_none (f : Nat → Int) (ins : Nat → Bool) : asksF f ins (-1) = 4 := by
  unfold asksF
  rw [if_pos (.inl (by omega))]
theorem asks_beyond (f : Nat → Int) (ins : Nat → Bool) (p : Nat) (b : Bool) (cmd : Int) (hp : f p < 0) : asksF f (setIns ins p b) cmd = asksF f ins cmd := by
  unfold asksF
  rw [inN_skip f ins p b hp]
theorem pairs_pos {c : Cfg} (h : CfgOK c) : 0 < c.pairs.length := by
  have := h.n4
  rw [c.pairs_length]; omega
theorem from_beyond {c : Cfg} (h : CfgOK c) (p : Nat) (hp : c.ps.length ≤ p) : fromL c.pairs c.ps (p : Int) < 0 := by
  unfold fromL
  rw [if_pos (pairs_pos h)]
  unfold atL
  rw [if_neg (by omega)]
  omega
/-- A view in a block of its own, one cell of it laid anew. -/
theorem view_set {w w' : World} {g : Nat} {vs : Array Value} {B : Nat} (hg : w'.heap[g]? = some (.cells vs 32 (0, 0))) (hb : Below B w w') (hB : B ≤ g) (i : Nat) (v : Value) :
    (w'.setCell ⟨g, i, none⟩ v).heap[g]? = some (.cells (vs.setIfInBounds i v) 32 (0, 0)) ∧ Below B w (w'.setCell ⟨g, i, none⟩ v) ∧ (w'.setCell ⟨g, i, none⟩ v).heap.size = w'.heap.size ∧ ∀ k, k ≠ g → (w'.setCell ⟨g, i, none⟩ v).heap[k]? = w'.heap[k]? :=
  ⟨heap_set_same hg i v, hb.setCell hB v, by simp [World.setCell], fun k hk => Below.heap_setCell _ _ _ _ hk⟩

set_option maxRecDepth 100000 in
set_option maxHeartbeats 8000000 in
theorem modesWorse_walk (nodes long miss good fresh : Int) (pa sa ba ta : Option Addr) (pn pc sn sc bn bc tn tc : Nat) (ps ss bs : List Int) (ts : List (Int × Int × Int)) (vs : Array Value) (ins : Nat → Bool) (cmd : Int) (md : Nat) (pr : Nat) (hpr : pr ≤ 255) (w : World) (hs : Signs w) (hE : Edges w) (hC : CfgIn w nodes long miss good fresh pa sa ba ta pn pc sn sc bn bc tn tc ps ss bs ts) (hv : ViewIs vs ins cmd md) :
    Calls Tryd.prog 5 #[.agg #[.int .i64 nodes, .slice pa pn pc, .slice sa sn sc, .int .i64 long, .slice ba bn bc, .slice ta tn tc, .int .i64 miss, .int .i64 good, .int .i64 fresh], .agg vs, .int .u8 pr] w fun e w' => e = .returned (.bool true) ∧ Below w.heap.size w w' := by
  have hb1 := ((Below.refl w.heap.size w).alloc (Nat.le_refl _) (.cells #[.int .i64 nodes, .slice pa pn pc, .slice sa sn sc, .int .i64 long, .slice ba bn bc, .slice ta tn tc, .int .i64 miss, .int .i64 good, .int .i64 fresh] 25)).alloc (by simp) (.cells vs 32)
  have hN := new_any nodes long miss good fresh pa sa ba ta pn pc sn sc bn bc tn tc ps ss bs ts _ (hs.below hb1) (hC.below hb1)
  have hvb : ((w.alloc (.cells #[.int .i64 nodes, .slice pa pn pc, .slice sa sn sc, .int .i64 long, .slice ba bn bc, .slice ta tn tc, .int .i64 miss, .int .i64 good, .int .i64 fresh] 25)).alloc (.cells vs 32)).heap[w.heap.size + 1]? = some (.cells vs 32 (0, 0)) := heap_new _ _ _ (by simp)
  have hcb : ((w.alloc (.cells #[.int .i64 nodes, .slice pa pn pc, .slice sa sn sc, .int .i64 long, .slice ba bn bc, .slice ta tn tc, .int .i64 miss, .int .i64 good, .int .i64 fresh] 25)).alloc (.cells vs 32)).heap[w.heap.size]? = some (.cells #[.int .i64 nodes, .slice pa pn pc, .slice sa sn sc, .int .i64 long, .slice ba bn bc, .slice ta tn tc, .int .i64 miss, .int .i64 good, .int .i64 fresh] 25 (0, 0)) := heap_alloc2_old w _ _
  have HV := Lib.hid hvb
  have HCB := Lib.hid hcb
  have HB := Lib.hid hb1
  have HS := Lib.hid hs
  have HE := Lib.hid hE
  have HC := Lib.hid hC
  have hrp : ps.length = pn := hC.rp.len
  obtain ⟨c, hc⟩ : ∃ c, c = Cfg.mk nodes long miss good fresh ps ss bs ts := ⟨_, rfl⟩
  have hcp : c.ps.length = pn := by rw [hc]; exact hrp
  have HP := Lib.hid hcp
  rw [← hc] at hN
  clear hvb hcb hb1 hs hE hc hC hrp hcp
  go_enter Tryd.func5, Tryd.ntmps5
  go_wp2_with fail
  refine hN.mono ?_
  rintro e w3 hP
  rcases hP with ⟨h0, rfl, hb3⟩ | ⟨h0, b, rfl, hA, hb3⟩
  · have hbl := HB.out.trans (hb3.mono (by simp; omega))
    have hl := lives25_any w3 (HS.out.below hbl) (HE.out.below hbl)
    have hne : (c.err != 0) = true := by simpa using h0
    generalize c.err = x at hne
    have HL := Lib.hid hbl
    clear hb3 hbl h0
    go_wp2_with (go_at_call 21; refine (hl).mono ?_; rintro e w' ⟨rfl, hb⟩)
    go_ret
    exact ⟨rfl, HL.out.trans (hb.mono HL.out.size)⟩
  · have hok := Cfg.ok h0
    have hsz := hb3.size
    simp only [World.size_alloc] at hb3 hsz hA
    have hbl : Below w.heap.size w w3 := HB.out.trans (hb3.mono (by omega))
    have hv3 : w3.heap[w.heap.size + 1]? = some (.cells vs 32 (0, 0)) := (hb3.block _ (by omega)).trans HV.out
    have hc3 : w3.heap[w.heap.size]? = some (.cells #[.int .i64 nodes, .slice pa pn pc, .slice sa sn sc, .int .i64 long, .slice ba bn bc, .slice ta tn tc, .int .i64 miss, .int .i64 good, .int .i64 fresh] 25 (0, 0)) := (hb3.block _ (by omega)).trans HCB.out
    have hcc3 := heap_cell hc3 1
    have hsv : (Tryd.prog.info? 32).map (·.size) = some vs.size := by rw [hv.size]; kernel_rfl
    have hNP := hA.ptr hok
    have H3 := Lib.hid (⟨hv3, hbl, hNP, hsz⟩ : _ ∧ Below w.heap.size w w3 ∧ _ ∧ _)
    clear hv3 hbl hA hb3 hN hc3 hNP
    go_wp2_with (first | (refine wpList_load_at (w.heap.size + 1) H3.out.1 rfl Tryd.underlying32 rfl hsv ?_) | fail)
    refine Paused.mk ?_
    go_wp2_with (first | (refine wpList_store_new w3.heap.size 42 rfl rfl (show _ = Value.agg vs from rfl) hsv rfl hv.size hv.all ?_) | fail)
    intro w4 g4 b4 s4
    obtain ⟨p, hp, hpd⟩ : ∃ p : Nat, p < 8 ∧ (pr : Int) % 8 = p := ⟨pr % 8, by omega, by omega⟩
    rw [hpd]
    have c4 : w4.cell? ⟨w3.heap.size, p, none⟩ = some (.bool (ins p)) := (heap_cell g4 p).trans (hv.insc p hp)
    have f4 := heap_thawed g4 p
    have HW := Lib.hid (view_set g4 b4 (Nat.le_refl _) p (.bool false))
    have s4' := s4
    have HVs := Lib.hid ((HW.out.2.1.block (w.heap.size + 1) (by omega)).trans H3.out.1)
    refine Paused.mk ?_
    go_wp2_with (first | (refine wpList_load_at (w.heap.size + 1) HVs.out rfl Tryd.underlying32 rfl hsv ?_) | fail)
    obtain ⟨w5, hw5⟩ : ∃ w5, w5 = w4.setCell ⟨w3.heap.size, p, none⟩ (.bool false) := ⟨_, rfl⟩
    rw [← hw5]
    rw [← hw5] at HW
    have s5 : w5.heap.size = w3.heap.size + 1 := by rw [HW.out.2.2.1, s4']
    have HG5 := Lib.hid HW.out.1
    have HB5 := Lib.hid HW.out.2.1
    have HV5 := Lib.hid ((HB5.out.block (w.heap.size + 1) (by omega)).trans H3.out.1)
    clear HW hw5 c4 f4 g4 b4 s4 s4' HVs
    refine Paused.mk ?_
    go_wp2_with (first | (refine wpList_store_new (w3.heap.size + 1) 42 s5.symm rfl (show _ = Value.agg vs from rfl) hsv rfl hv.size hv.all ?_) | fail)
    intro w6 g6 b6 s6
    have c6 : w6.cell? ⟨w3.heap.size + 1, 40, none⟩ = some (.int .i8 cmd) := (heap_cell g6 40).trans hv.cmdc
    have f6 := heap_thawed g6 40
    have b6' : Below w3.heap.size w3 w6 := HB5.out.trans (b6.mono (by omega))
    have HW := Lib.hid (view_set g6 b6' (by omega) 40 (.int .i8 (-1)))
    have HG6 := Lib.hid ((b6.block w3.heap.size (by omega)).trans HG5.out)
    have s6' := s6
    have HVs := Lib.hid ((HW.out.2.1.block (w.heap.size + 1) (by omega)).trans H3.out.1)
    refine Paused.mk ?_
    go_wp2_with (first | (refine wpList_load_at (w.heap.size + 1) HVs.out rfl Tryd.underlying32 rfl hsv ?_) | fail)
    obtain ⟨w7, hw7⟩ : ∃ w7, w7 = w6.setCell ⟨w3.heap.size + 1, 40, none⟩ (.int .i8 (-1)) := ⟨_, rfl⟩
    rw [← hw7]
    rw [← hw7] at HW
    have s7 : w7.heap.size = w3.heap.size + 1 + 1 := by rw [HW.out.2.2.1, s6', s5]
    have HX7 := Lib.hid HW.out.1
    have HB7 := Lib.hid HW.out.2.1
    have HW7 := Lib.hid ((HW.out.2.2.2 w3.heap.size (by omega)).trans HG6.out)
    have HV7 := Lib.hid ((HB7.out.block (w.heap.size + 1) (by omega)).trans H3.out.1)
    clear HW hw7 c6 f6 g6 b6 b6' s6 s6' HG5 HB5 HV5 s5 HG6 HVs
    refine Paused.mk ?_
    go_wp2_with (first | (refine wpList_store_new (w3.heap.size + 1 + 1) 42 s7.symm rfl (show _ = Value.agg vs from rfl) hsv rfl hv.size hv.all ?_) | fail)
    intro w8 g8 b8 s8
    have c8 : w8.cell? ⟨w3.heap.size + 1 + 1, p, none⟩ = some (.bool (ins p)) := (heap_cell g8 p).trans (hv.insc p hp)
    have f8 := heap_thawed g8 p
    have b8' : Below w3.heap.size w3 w8 := HB7.out.trans (b8.mono (by omega))
    have HW := Lib.hid (view_set g8 b8' (by omega) p (.bool (!ins p)))
    have HX8 := Lib.hid ((b8.block (w3.heap.size + 1) (by omega)).trans HX7.out)
    have HW8 := Lib.hid ((b8.block w3.heap.size (by omega)).trans HW7.out)
    have HVs := Lib.hid ((HW.out.2.1.block (w.heap.size + 1) (by omega)).trans H3.out.1)
    have s8' := s8
    refine Paused.mk ?_
    go_wp2_with (first | (refine wpList_load_at (w.heap.size + 1) HVs.out rfl Tryd.underlying32 rfl hsv ?_) | fail)
    obtain ⟨w9, hw9⟩ : ∃ w9, w9 = w8.setCell ⟨w3.heap.size + 1 + 1, p, none⟩ (.bool (!ins p)) := ⟨_, rfl⟩
    rw [← hw9]
    rw [← hw9] at HW
    have s9 : w9.heap.size = w3.heap.size + 1 + 1 + 1 := by rw [HW.out.2.2.1, s8', s7]
    have HY9 := Lib.hid HW.out.1
    have HB9 := Lib.hid HW.out.2.1
    have HW9 := Lib.hid ((HW.out.2.2.2 w3.heap.size (by omega)).trans HW8.out)
    have HX9 := Lib.hid ((HW.out.2.2.2 (w3.heap.size + 1) (by omega)).trans HX8.out)
    have HV9 := Lib.hid ((HB9.out.block (w.heap.size + 1) (by omega)).trans H3.out.1)
    clear HW hw9 c8 f8 g8 b8 b8' s8 s8' HX7 HB7 HW7 HV7 s7 HX8 HW8 HVs
    obtain ⟨f, hf⟩ : ∃ f : Nat → Int, f = fun k : Nat => fromL c.pairs c.ps (k : Int) := ⟨_, rfl⟩
    have has := asks_any (some ⟨b, 0, none⟩) c c.pairs vs ins cmd md w9 (H3.out.2.2.1.below HB9.out) hv
    rw [← hf] at has
    have hr1 := asks_less f ins p cmd
    have hr2 := asks_none f ins
    have hr3 : pn ≤ p → asksF f (setIns ins p (!ins p)) cmd = asksF f ins cmd := fun h => asks_beyond f ins p _ cmd (by rw [hf]; exact from_beyond hok p (by rw [HP.out]; exact h))
    have HF := Lib.hid hf
    clear hf
    obtain ⟨r, hr⟩ : ∃ r, asksF f ins cmd = r := ⟨_, rfl⟩
    obtain ⟨r1, hq1⟩ : ∃ r, asksF f (setIns ins p false) cmd = r := ⟨_, rfl⟩
    rw [hr, hq1] at hr1
    rw [hr] at hr3 has
    have d1 : decide (r ≤ r1) = true := decide_eq_true hr1
    have HQ1 := Lib.hid hq1
    have HR2 := Lib.hid hr2
    have HR3 := Lib.hid hr3
    clear hr hq1 hr2 hr3
    have cbx : w9.cell? ⟨w.heap.size, 1, none⟩ = some (.slice pa pn pc) := (HB9.out.cell (p := ⟨w.heap.size, 1, none⟩) (by simp; omega)).trans hcc3
    refine Paused.mk ?_
    go_wp2_with fail
    refine has.mono ?_
    rintro e wa ⟨rfl, hba⟩
    have HBa := Lib.hid (HB9.out.trans (hba.mono (by omega)))
    have HWa := Lib.hid ((hba.block w3.heap.size (by omega)).trans HW9.out)
    have HXa := Lib.hid ((hba.block (w3.heap.size + 1) (by omega)).trans HX9.out)
    have HYa := Lib.hid ((hba.block (w3.heap.size + 1 + 1) (by omega)).trans HY9.out)
    have cba : wa.cell? ⟨w.heap.size, 1, none⟩ = some (.slice pa pn pc) := (hba.cell (p := ⟨w.heap.size, 1, none⟩) (by simp; omega)).trans cbx
    have sa' := hba.size
    rw [s9] at sa'
    have hsw : (Tryd.prog.info? 32).map (·.size) = some (vs.setIfInBounds p (.bool false)).size := by rw [hsv]; simp
    have hsx : (Tryd.prog.info? 32).map (·.size) = some (vs.setIfInBounds 40 (.int .i8 (-1))).size := by rw [hsv]; simp
    have hsy : (Tryd.prog.info? 32).map (·.size) = some (vs.setIfInBounds p (.bool (!ins p))).size := by rw [hsv]; simp
    have hvw := hv.set_in p hp false
    have hvx := hv.set_cmd (-1)
    have hvy := hv.set_in p hp (!ins p)
    clear hba cbx has HB9 HW9 HX9 HY9 HV9 s9 hcc3
    have hasw := asks_any (some ⟨b, 0, none⟩) c c.pairs _ _ cmd md wa (H3.out.2.2.1.below HBa.out) hvw
    rw [← HF.out, HQ1.out] at hasw
    go_wp2_with (first | (refine wpList_load_at w3.heap.size HWa.out rfl Tryd.underlying32 rfl hsw ?_) | fail)
    refine Paused.mk ?_
    go_wp2_with fail
    refine hasw.mono ?_
    rintro e wb ⟨rfl, hbb⟩
    have HBb := Lib.hid (HBa.out.trans (hbb.mono (by omega)))
    have HXb := Lib.hid ((hbb.block (w3.heap.size + 1) (by omega)).trans HXa.out)
    have HYb := Lib.hid ((hbb.block (w3.heap.size + 1 + 1) (by omega)).trans HYa.out)
    have sb' := hbb.size
    clear hbb hasw HBa HXa HYa HWa cba
    have hasx := asks_any (some ⟨b, 0, none⟩) c c.pairs _ _ (-1) md wb (H3.out.2.2.1.below HBb.out) hvx
    rw [← HF.out, HR2.out] at hasx
    go_wp2_with (first | (refine wpList_load_on (by simp [yielded]) (w3.heap.size + 1) HXb.out rfl Tryd.underlying32 rfl hsx ?_) | fail)
    refine Paused.mk ?_
    go_wp2_with fail
    refine hasx.mono ?_
    rintro e wc ⟨rfl, hbc⟩
    have HBc := Lib.hid (HBb.out.trans (hbc.mono (by omega)))
    have HYc := Lib.hid ((hbc.block (w3.heap.size + 1 + 1) (by omega)).trans HYb.out)
    have sc' := hbc.size
    clear hbc hasx HBb HXb HYb
    by_cases hpn : pn ≤ p
    · have d2 : decide (pn ≤ p) = true := decide_eq_true hpn
      have hasy := asks_any (some ⟨b, 0, none⟩) c c.pairs _ _ cmd md wc (H3.out.2.2.1.below HBc.out) hvy
      rw [← HF.out, HR3.out hpn] at hasy
      go_wp2_with (first | (refine wpList_load_on (by simp [yielded]) (w3.heap.size + 1 + 1) HYc.out rfl Tryd.underlying32 rfl hsy ?_) | fail)
      refine Paused.mk ?_
      go_wp2_with fail
      refine hasy.mono ?_
      rintro e wd ⟨rfl, hbd⟩
      have HBd := Lib.hid (HBc.out.trans (hbd.mono (by omega)))
      have HWd := Lib.hid (H3.out.2.1.trans (HBd.out.mono (by omega)))
      have hl := lives25_any wd (HS.out.below HWd.out) (HE.out.below HWd.out)
      clear hbd hasy
      go_wp2_with (go_at_call 21; refine (hl).mono ?_; rintro e w' ⟨rfl, hbe⟩)
      go_ret
      exact ⟨rfl, HWd.out.trans (hbe.mono HWd.out.size)⟩
    · have d2 : decide (pn ≤ p) = false := decide_eq_false hpn
      have HWd := Lib.hid (H3.out.2.1.trans (HBc.out.mono (by omega)))
      have hl := lives25_any wc (HS.out.below HWd.out) (HE.out.below HWd.out)
      go_wp2_with (go_at_call 21; refine (hl).mono ?_; rintro e w' ⟨rfl, hbe⟩)
      go_ret
      exact ⟨rfl, HWd.out.trans (hbe.mono HWd.out.size)⟩
end Go.Proofs.YtibncdkekceokaaDoor
