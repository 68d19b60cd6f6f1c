/- sennitlaw25.lives. -/
import Derived.Test.YtibncdkekceokaaDoorCoreC
import Derived.Test.YtibncdkekceokaaDoorCoreM
namespace Go.Proofs.YtibncdkekceokaaDoor
open Go.RowKit

/-- A view of which nothing is known yet, on hold. -/
def viewZ : Array Value := #[.bool false, .bool false, .bool false, .bool false, .bool false, .bool false, .bool false, .bool false, .int .u8 0, .int .u8 0, .int .u8 0, .int .u8 0, .int .u8 0, .int .u8 0, .int .u8 0, .int .u8 0, .int .u8 0, .int .u8 0, .int .u8 0, .int .u8 0, .int .u8 0, .int .u8 0, .int .u8 0, .int .u8 0, .int .u16 0, .int .u16 0, .int .u16 0, .int .u16 0, .int .u16 0, .int .u16 0, .int .u16 0, .int .u16 0, .bool false, .bool false, .bool false, .bool false, .bool false, .bool false, .bool false, .bool false, .int .i8 0, .int .u8 4]
/-- A view with one of its pairs told anew. -/
def setIns (ins : Nat → Bool) (i : Nat) (b : Bool) : Nat → Bool := fun k => if k = i then b else ins k
theorem one_set {vs : Array Value} (h : ∀ (i : Nat) (v : Value), vs[i]? = some v → v.oneCell' = true) (k : Nat) (u : Value) (hu : u.oneCell' = true) : ∀ (i : Nat) (v : Value), (vs.setIfInBounds k u)[i]? = some v → v.oneCell' = true := by
  intro i v hv
  rw [Array.getElem?_setIfInBounds] at hv
  split at hv
  · split at hv
    · cases hv; exact hu
    · cases hv
  · exact h i v hv
theorem ViewIs.set_in {vs : Array Value} {ins : Nat → Bool} {cmd md : Int} (h : ViewIs vs ins cmd md) (i : Nat) (hi : i < 8) (b : Bool) : ViewIs (vs.setIfInBounds i (.bool b)) (setIns ins i b) cmd md := by
  have hs := h.size
  refine ⟨by simp [hs], fun k hk => ?_, ?_, ?_, h.lo, h.hi, one_set h.one _ _ rfl⟩
  · rw [Array.getElem?_setIfInBounds]
    unfold setIns
    by_cases e : i = k
    · subst e; simp; omega
    · rw [if_neg e, if_neg (by omega)]; exact h.insc k hk
  · rw [Array.getElem?_setIfInBounds, if_neg (by omega)]; exact h.cmdc
  · rw [Array.getElem?_setIfInBounds, if_neg (by omega)]; exact h.mdc
theorem ViewIs.set_md {vs : Array Value} {ins : Nat → Bool} {cmd md : Int} (h : ViewIs vs ins cmd md) (md' : Int) (h0 : 0 ≤ md') (h1 : md' ≤ 255) : ViewIs (vs.setIfInBounds 41 (.int .u8 md')) ins cmd md' := by
  have hs := h.size
  refine ⟨by simp [hs], fun k hk => ?_, ?_, ?_, h0, h1, one_set h.one _ _ rfl⟩
  · rw [Array.getElem?_setIfInBounds, if_neg (by omega)]; exact h.insc k hk
  · rw [Array.getElem?_setIfInBounds, if_neg (by omega)]; exact h.cmdc
  · rw [Array.getElem?_setIfInBounds]; simp; omega
theorem ViewIs.set_cmd {vs : Array Value} {ins : Nat → Bool} {cmd md : Int} (h : ViewIs vs ins cmd md) (cmd' : Int) : ViewIs (vs.setIfInBounds 40 (.int .i8 cmd')) ins cmd' md := by
  have hs := h.size
  refine ⟨by simp [hs], fun k hk => ?_, ?_, ?_, h.lo, h.hi, one_set h.one _ _ rfl⟩
  · rw [Array.getElem?_setIfInBounds, if_neg (by omega)]; exact h.insc k hk
  · rw [Array.getElem?_setIfInBounds]; simp; omega
  · rw [Array.getElem?_setIfInBounds, if_neg (by omega)]; exact h.mdc
/-- .. with two pairs in. -/
def viewA : Array Value := (viewZ.setIfInBounds 0 (.bool true)).setIfInBounds 1 (.bool true)
theorem viewZ_one : viewZ.all (·.oneCell') = true := by kernel_rfl
theorem viewA_one : viewA.all (·.oneCell') = true := by kernel_rfl
theorem viewA_info : (Tryd.prog.info? 32).map (·.size) = some viewA.size := by kernel_rfl
theorem viewZ_info : (Tryd.prog.info? 32).map (·.size) = some viewZ.size := by kernel_rfl
theorem viewZ_is : ViewIs viewZ (fun _ => false) 0 4 := by
  refine ⟨rfl, fun k hk => ?_, rfl, rfl, by omega, by omega, fun i v hi => (Array.all_eq_true_iff_forall_mem.1 viewZ_one) v (Array.mem_iff_getElem?.2 ⟨i, hi⟩)⟩
  rcases k with _ | _ | _ | _ | _ | _ | _ | _ | k
  all_goals first | rfl | omega

def insA : Nat → Bool := setIns (setIns (fun _ => false) 0 true) 1 true
def insB : Nat → Bool := setIns insA 1 false
theorem viewA_is : ViewIs viewA insA 0 4 := (viewZ_is.set_in 0 (by omega) true).set_in 1 (by omega) true
def viewB : Array Value := (viewA.setIfInBounds 1 (.bool false)).setIfInBounds 41 (.int .u8 1)
theorem viewB_is : ViewIs viewB insB 0 1 := (viewA_is.set_in 1 (by omega) false).set_md 1 (by omega) (by omega)
def viewC : Array Value := viewA.setIfInBounds 41 (.int .u8 3)
theorem viewC_is : ViewIs viewC insA 0 3 := viewA_is.set_md 3 (by omega) (by omega)
def viewD : Array Value := viewC.setIfInBounds 41 (.int .u8 2)
theorem viewD_is : ViewIs viewD insA 0 2 := viewC_is.set_md 2 (by omega) (by omega)
theorem viewB_info : (Tryd.prog.info? 32).map (·.size) = some viewB.size := by kernel_rfl
theorem viewC_info : (Tryd.prog.info? 32).map (·.size) = some viewC.size := by kernel_rfl
theorem viewD_info : (Tryd.prog.info? 32).map (·.size) = some viewD.size := by kernel_rfl
def plainF : Nat → Int := fun k => fromL plainC.pairs plainC.ps k
theorem plainA : asksF plainF insA 0 = 1 := by decide +kernel
theorem plainB : asksF plainF insB 0 = 3 := by decide +kernel
section
variable {w : World} {b : Nat} (hP : NetP w (some ⟨b, 0, none⟩) plainC plainC.pairs) (hE : Edges w)
include hP hE
theorem nextA : Calls Tryd.prog 27 #[.pointer (some ⟨b, 0, none⟩), .agg viewA] w fun e w' => e = .returned (.int .u8 3) ∧ Below w.heap.size w w' := by
  have h := next_any _ plainC _ viewA insA 0 (4 : Nat) 1 w hP viewA_is hE plainA
  rwa [show nextF 1 4 = 3 by decide] at h
theorem nextC : Calls Tryd.prog 27 #[.pointer (some ⟨b, 0, none⟩), .agg viewC] w fun e w' => e = .returned (.int .u8 2) ∧ Below w.heap.size w w' := by
  have h := next_any _ plainC _ viewC insA 0 (3 : Nat) 1 w hP viewC_is hE plainA
  rwa [show nextF 1 3 = 2 by decide] at h
theorem nextD : Calls Tryd.prog 27 #[.pointer (some ⟨b, 0, none⟩), .agg viewD] w fun e w' => e = .returned (.int .u8 1) ∧ Below w.heap.size w w' := by
  have h := next_any _ plainC _ viewD insA 0 (2 : Nat) 1 w hP viewD_is hE plainA
  rwa [show nextF 1 2 = 1 by decide] at h
theorem nextB : Calls Tryd.prog 27 #[.pointer (some ⟨b, 0, none⟩), .agg viewB] w fun e w' => e = .returned (.int .u8 3) ∧ Below w.heap.size w w' := by
  have h := next_any _ plainC _ viewB insB 0 (1 : Nat) 3 w hP viewB_is hE plainB
  rwa [show nextF 3 1 = 3 by decide] at h
omit hE in
theorem asksD : Calls Tryd.prog 26 #[.pointer (some ⟨b, 0, none⟩), .agg viewD] w fun e w' => e = .returned (.int .u8 1) ∧ Below w.heap.size w w' := by
  have h := asks_any _ plainC _ viewD insA 0 2 w hP viewD_is
  have e : asksF (fun k : Nat => fromL plainC.pairs plainC.ps (k : Int)) insA 0 = 1 := plainA
  rwa [e] at h
end
theorem edge43 {w : World} (hE : Edges w) : Calls Tryd.prog 24 #[.int .u8 4, .int .u8 3] w fun e w' => e = .returned (.bool true) ∧ w = w' := by
  have h := edge_any 4 3 w hE
  rwa [show edgeB 4 3 = true by decide] at h
theorem edge42 {w : World} (hE : Edges w) : Calls Tryd.prog 24 #[.int .u8 4, .int .u8 2] w fun e w' => e = .returned (.bool false) ∧ w = w' := by
  have h := edge_any 4 2 w hE
  rwa [show edgeB 4 2 = false by decide] at h

set_option maxRecDepth 100000 in
set_option maxHeartbeats 4000000 in
theorem lives25_any (w : World) (hs : Signs w) (hE : Edges w) :
    Calls Tryd.prog 21 #[] w fun e w' => e = .returned (.bool true) ∧ Below w.heap.size w w' := by
  go_enter Tryd.func21, Tryd.ntmps21
  go_wp2_with fail
  refine (plain_any _).mono ?_
  rintro e w1 ⟨pa, sa, ba, rfl, hC, hb1⟩
  go_wp2_with fail
  refine (new_any _ _ _ _ _ _ _ _ _ _ _ _ _ _ _ _ _ _ _ _ _ _ (hs.below hb1) hC).mono ?_
  rintro e w2 hN
  rcases hN with ⟨h0, _⟩ | ⟨_, b, rfl, hA, hb2⟩
  · exact absurd plainC_err h0
  have HP := Lib.hid (show NetP w2 (some ⟨b, 0, none⟩) plainC plainC.pairs from hA.ptr (Cfg.ok plainC_err))
  have HB := Lib.hid (hb1.trans (hb2.mono (by have := hb1.size; omega)))
  have HE := Lib.hid (hE.below HB.out)
  have hsz := HB.out.size
  clear hA hC hb1 hb2 hs hE
  go_wp2_with (first | (refine wpList_store_new w2.heap.size 42 rfl rfl (show _ = Value.agg viewZ from rfl) viewZ_info rfl rfl viewZ_one ?_) | fail)
  intro w3 g3 b3 s3
  have hc3 : w3.cell? ⟨w2.heap.size, 0, none⟩ = some (.bool false) := (heap_cell g3 0).trans (viewZ_is.insc 0 (by omega))
  have hd3 : w3.cell? ⟨w2.heap.size, 1, none⟩ = some (.bool false) := (heap_cell g3 1).trans (viewZ_is.insc 1 (by omega))
  have hf3 := heap_thawed g3 0
  have he3 := heap_thawed g3 1
  have hgA : ((w3.setCell ⟨w2.heap.size, 0, none⟩ (.bool true)).setCell ⟨w2.heap.size, 1, none⟩ (.bool true)).heap[w2.heap.size]? = some (.cells viewA 32 (0, 0)) := heap_set_same (heap_set_same g3 0 _) 1 _
  have bbA : Below w2.heap.size w2 ((w3.setCell ⟨w2.heap.size, 0, none⟩ (.bool true)).setCell ⟨w2.heap.size, 1, none⟩ (.bool true)) := (b3.setCell (Nat.le_refl _) _).setCell (Nat.le_refl _) _
  have ssA : ((w3.setCell ⟨w2.heap.size, 0, none⟩ (.bool true)).setCell ⟨w2.heap.size, 1, none⟩ (.bool true)).heap.size = w2.heap.size + 1 := by simp [s3]
  have HGA := Lib.hid hgA
  have BBA := Lib.hid bbA
  have SSA := Lib.hid ssA
  clear hgA bbA ssA b3 g3
  refine Paused.mk ?_
  go_wp2_with (first | (refine wpList_load_at w2.heap.size HGA.out rfl Tryd.underlying32 rfl viewA_info ?_) | fail)
  generalize hWA : (w3.setCell ⟨w2.heap.size, 0, none⟩ (.bool true)).setCell ⟨w2.heap.size, 1, none⟩ (.bool true) = wA at HGA BBA SSA ⊢
  have sA := SSA.out
  clear hWA hc3 hd3 hf3 he3 s3
  refine Paused.mk ?_
  go_wp2_with (first | (refine wpList_store_new (w2.heap.size + 1) 42 SSA.out.symm rfl (show _ = Value.agg viewA from rfl) viewA_info rfl viewA_is.size viewA_one ?_) | fail)
  intro w4 g4 b4 s4
  have he4 := (b4.block w2.heap.size (by omega)).trans HGA.out
  have bb4 : Below w2.heap.size w2 w4 := BBA.out.trans (b4.mono (by omega))
  have ss4 : w4.heap.size = w2.heap.size + 1 + 1 := by rw [s4, sA]
  have hc4 : w4.cell? ⟨w2.heap.size + 1, 1, none⟩ = some (.bool true) := (heap_cell g4 1).trans (viewA_is.insc 1 (by omega))
  have hc5 : w4.cell? ⟨w2.heap.size + 1, 41, none⟩ = some (.int .u8 4) := (heap_cell g4 41).trans viewA_is.mdc
  have hf4 := heap_thawed g4 1
  have hf5 := heap_thawed g4 41
  obtain ⟨w5, hw5⟩ : ∃ w5, w5 = (w4.setCell ⟨w2.heap.size + 1, 1, none⟩ (.bool false)).setCell ⟨w2.heap.size + 1, 41, none⟩ (.int .u8 1) := ⟨_, rfl⟩
  have ga5 : w5.heap[w2.heap.size]? = some (.cells viewA 32 (0, 0)) := by
    rw [hw5, Below.heap_setCell _ _ _ _ (show w2.heap.size ≠ w2.heap.size + 1 by omega), Below.heap_setCell _ _ _ _ (show w2.heap.size ≠ w2.heap.size + 1 by omega)]
    exact he4
  have gb5 : w5.heap[w2.heap.size + 1]? = some (.cells viewB 32 (0, 0)) := by
    rw [hw5]
    exact heap_set_same (heap_set_same g4 1 _) 41 _
  have bb5 : Below w2.heap.size w2 w5 := by
    rw [hw5]
    exact (bb4.setCell (by simp) _).setCell (by simp) _
  have ss5 : w2.heap.size + 2 ≤ w5.heap.size := by rw [hw5]; simp [ss4]
  have HI5 := Lib.hid (⟨ga5, gb5, bb5⟩ : _ ∧ _ ∧ Below w2.heap.size w2 w5)
  clear he4 g4 bb4 ss4 s4 b4 ga5 gb5 bb5 HGA BBA SSA sA
  have HW5 := Lib.hid hw5
  clear hw5
  refine Paused.mk ?_
  go_wp2_with (first | (refine wpList_load_at w2.heap.size (HW5.out ▸ HI5.out.1) rfl Tryd.underlying32 rfl viewA_info ?_) | fail)
  rw [← HW5.out]
  clear hc4 hc5 hf4 hf5
  refine Paused.mk ?_
  go_wp2_with fail
  refine (nextA (HP.out.below HI5.out.2.2) (HE.out.below HI5.out.2.2)).mono ?_
  rintro e w6 ⟨rfl, hb6⟩
  have ss6 := hb6.size
  have ga6 := (hb6.block w2.heap.size (by omega)).trans HI5.out.1
  have HI6 := Lib.hid (⟨ga6, (hb6.block (w2.heap.size + 1) (by omega)).trans HI5.out.2.1, HI5.out.2.2.trans (hb6.mono (by omega))⟩ : _ ∧ _ ∧ Below w2.heap.size w2 w6)
  have hc6 : w6.cell? ⟨w2.heap.size, 41, none⟩ = some (.int .u8 4) := (heap_cell ga6 41).trans viewA_is.mdc
  have hf6 := heap_thawed ga6 41
  clear hb6 ga6 HI5
  have HL6 := Lib.hid (heap_set_same HI6.out.1 41 (.int .u8 3))
  go_wp2_with (first | (refine wpList_load_at w2.heap.size HL6.out rfl Tryd.underlying32 rfl viewC_info ?_) | fail)
  refine Paused.mk ?_
  go_wp2_with fail
  obtain ⟨w7, hw7⟩ : ∃ w7, w7 = w6.setCell ⟨w2.heap.size, 41, none⟩ (.int .u8 3) := ⟨_, rfl⟩
  rw [← hw7]
  have ss7 : w2.heap.size + 2 ≤ w7.heap.size := by rw [hw7]; simp; omega
  have HI7 := Lib.hid (show w7.heap[w2.heap.size]? = some (.cells viewC 32 (0, 0)) ∧ w7.heap[w2.heap.size + 1]? = some (.cells viewB 32 (0, 0)) ∧ Below w2.heap.size w2 w7 by
    rw [hw7]
    exact ⟨heap_set_same HI6.out.1 41 _, (Below.heap_setCell _ _ _ _ (by simp)).trans HI6.out.2.1, HI6.out.2.2.setCell (Nat.le_refl _) _⟩)
  clear hw7 hc6 hf6 HI6
  refine (nextC (HP.out.below HI7.out.2.2) (HE.out.below HI7.out.2.2)).mono ?_
  rintro e w8 ⟨rfl, hb8⟩
  have ss8 := hb8.size
  have ga8 := (hb8.block w2.heap.size (by omega)).trans HI7.out.1
  have HI8 := Lib.hid (⟨ga8, (hb8.block (w2.heap.size + 1) (by omega)).trans HI7.out.2.1, HI7.out.2.2.trans (hb8.mono (by omega))⟩ : _ ∧ _ ∧ Below w2.heap.size w2 w8)
  have hc8 : w8.cell? ⟨w2.heap.size, 41, none⟩ = some (.int .u8 3) := (heap_cell ga8 41).trans viewC_is.mdc
  have hf8 := heap_thawed ga8 41
  clear hb8 ga8 HI7
  have HL8 := Lib.hid (heap_set_same HI8.out.1 41 (.int .u8 2))
  go_wp2_with (first | (refine wpList_load_on (by simp [yielded]) w2.heap.size HL8.out rfl Tryd.underlying32 rfl viewD_info ?_) | fail)
  refine Paused.mk ?_
  go_wp2_with fail
  obtain ⟨w9, hw9⟩ : ∃ w9, w9 = w8.setCell ⟨w2.heap.size, 41, none⟩ (.int .u8 2) := ⟨_, rfl⟩
  rw [← hw9]
  have ss9 : w2.heap.size + 2 ≤ w9.heap.size := by rw [hw9]; simp; omega
  have HI9 := Lib.hid (show w9.heap[w2.heap.size]? = some (.cells viewD 32 (0, 0)) ∧ w9.heap[w2.heap.size + 1]? = some (.cells viewB 32 (0, 0)) ∧ Below w2.heap.size w2 w9 by
    rw [hw9]
    exact ⟨heap_set_same HI8.out.1 41 _, (Below.heap_setCell _ _ _ _ (by simp)).trans HI8.out.2.1, HI8.out.2.2.setCell (Nat.le_refl _) _⟩)
  clear hw9 hc8 hf8 HI8
  refine (asksD (HP.out.below HI9.out.2.2)).mono ?_
  rintro e wa ⟨rfl, hba⟩
  have ssa := hba.size
  have HIa := Lib.hid (⟨(hba.block w2.heap.size (by omega)).trans HI9.out.1, (hba.block (w2.heap.size + 1) (by omega)).trans HI9.out.2.1, HI9.out.2.2.trans (hba.mono (by omega))⟩ : _ ∧ _ ∧ Below w2.heap.size w2 wa)
  clear hba HI9
  go_wp2_with (first | (refine wpList_load_on (by simp [yielded]) w2.heap.size HIa.out.1 rfl Tryd.underlying32 rfl viewD_info ?_) | fail)
  refine Paused.mk ?_
  go_wp2_with fail
  refine (nextD (HP.out.below HIa.out.2.2) (HE.out.below HIa.out.2.2)).mono ?_
  rintro e wb ⟨rfl, hbb⟩
  have ssb := hbb.size
  have HIb := Lib.hid (⟨(hbb.block (w2.heap.size + 1) (by omega)).trans HIa.out.2.1, HIa.out.2.2.trans (hbb.mono (by omega))⟩ : _ ∧ Below w2.heap.size w2 wb)
  clear hbb HIa
  go_wp2_with (first | (refine wpList_load_on (by simp [yielded]) (w2.heap.size + 1) HIb.out.1 rfl Tryd.underlying32 rfl viewB_info ?_) | fail)
  refine Paused.mk ?_
  go_wp2_with fail
  refine (nextB (HP.out.below HIb.out.2) (HE.out.below HIb.out.2)).mono ?_
  rintro e wc ⟨rfl, hbc⟩
  have HIc := Lib.hid (HIb.out.2.trans (hbc.mono (by omega)))
  have he3 := edge43 (HE.out.below HIc.out)
  have he2 := edge42 (HE.out.below HIc.out)
  clear hbc HIb
  go_wp2_with fail
  refine he3.mono ?_
  rintro e w' ⟨rfl, rfl⟩
  go_wp2_with fail
  refine he2.mono ?_
  rintro e w' ⟨rfl, rfl⟩
  go_wp2
  go_ret
  exact ⟨rfl, HB.out.trans (HIc.out.mono hsz)⟩
end Go.Proofs.YtibncdkekceokaaDoor
