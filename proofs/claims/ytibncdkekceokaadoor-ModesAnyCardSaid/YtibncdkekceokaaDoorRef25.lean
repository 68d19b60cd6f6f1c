/- sennitref25: Edge, Asks, Next. -/
import Derived.Test.YtibncdkekceokaaDoorCoreM
import Derived.Test.YtibncdkekceokaaDoorCoreC
namespace Go.Proofs.YtibncdkekceokaaDoor
open Go.RowKit

theorem edgeB_big (a b : Nat) (h : ¬ b < 5) : edgeB a b = false := by simp [edgeB, h]
theorem refedge_any (a b : Nat) (w : World) (_ha : a ≤ 255) (_hb : b ≤ 255) :
    Calls Tryd.prog 25 #[.int .u8 a, .int .u8 b] w fun e w' => e = .returned (.bool (edgeB a b)) ∧ w = w' := by
  by_cases h1 : 4 < b
  · have he := edgeB_big a b (by omega)
    rw [he]
    clear he
    go_enter Tryd.func25, Tryd.ntmps25
    go_wp2
    go_ret
    exact ⟨rfl, rfl⟩
  · by_cases h2 : a = 0
    · subst h2
      have he : edgeB 0 b = true := by simp [edgeB, edgeT]; omega
      rw [he]
      clear he
      go_enter Tryd.func25, Tryd.ntmps25
      go_wp2
      go_ret
      exact ⟨rfl, rfl⟩
    · have z2 : ((a : Int) == 0) = false := by simpa using h2
      have z2' : (a == 0) = false := by simpa using h2
      by_cases h3 : 4 < a
      · have he : edgeB a b = true := by simp [edgeB, edgeT, show 5 ≤ a by omega]; omega
        rw [he]
        clear he
        go_enter Tryd.func25, Tryd.ntmps25
        go_wp2
        go_ret
        exact ⟨rfl, rfl⟩
      · by_cases h4 : a ≤ b
        · have he : edgeB a b = true := by simp [edgeB, edgeT, show ¬ 5 ≤ a by omega, h4]; omega
          rw [he]
          clear he
          go_enter Tryd.func25, Tryd.ntmps25
          go_wp2
          go_ret
          exact ⟨rfl, rfl⟩
        · obtain ⟨a', rfl⟩ : ∃ a', a = a' + 1 := ⟨a - 1, by omega⟩
          have he : edgeB (a' + 1) b = (decide (b = a') && decide (b ≠ 0)) := by
            rw [Bool.eq_iff_iff]
            simp [edgeB, edgeT, show ¬ 5 ≤ a' + 1 by omega]
            first | omega | (constructor <;> intro h <;> first | exact h.elim | omega)
          rw [he]
          have e1 : ((a' + 1 : Nat) : Int) = (a' : Int) + 1 := by omega
          have d1 : decide (4 < (a' : Int) + 1) = false := decide_eq_false (by omega)
          have d2 : decide ((a' : Int) + 1 ≤ (b : Int)) = false := decide_eq_false (by omega)
          have d3 : ((a' : Int) + 1 == 0) = false := by simp; omega
          have d4 : decide (4 < (b : Int)) = false := decide_eq_false (by omega)
          rw [show ((a' + 1 : Nat) : Int) = (a' : Int) + 1 by omega]
          have hle : a' ≤ 254 := by omega
          have hb4 : b ≤ 4 := by omega
          clear h1 h2 z2 z2' h3 h4 he e1
          go_enter Tryd.func25, Tryd.ntmps25
          go_wp2
          all_goals
            go_ret
            refine ⟨ret_bool ?_, rfl⟩
            rw [Bool.eq_iff_iff]
            simp only [bne_iff_ne, ne_eq, beq_iff_eq, Bool.and_eq_true, decide_eq_true_eq, Bool.false_eq_true, beq_eq_false_iff_ne] at *
            first | omega | (constructor <;> intro h <;> first | exact h.elim | omega)

/-- The signs of a config's pairs, so many. -/
def fF (m : Nat) : Nat → Int := fun k => if k < m then 0 else -1
theorem inN_congr {f g : Nat → Int} (ins : Nat → Bool) : ∀ k, (∀ j, j < k → (f j < 0 ↔ g j < 0)) → inN f ins k = inN g ins k ∧ allN f k = allN g k := by
  intro k
  induction k with
  | zero => intro _; exact ⟨rfl, rfl⟩
  | succ k ih =>
    intro h
    obtain ⟨h1, h2⟩ := ih fun j hj => h j (by omega)
    have h3 := h k (by omega)
    simp only [inN, allN, h1, h2]
    by_cases h4 : f k < 0
    · rw [if_pos h4, if_pos (h3.1 h4), if_pos h4, if_pos (h3.1 h4)]; exact ⟨rfl, rfl⟩
    · have h5 : ¬ g k < 0 := fun h => h4 (h3.2 h)
      rw [if_neg h4, if_neg h5, if_neg h4, if_neg h5]; exact ⟨rfl, rfl⟩
theorem asksF_congr {f g : Nat → Int} (ins : Nat → Bool) (cmd : Int) (h : ∀ j, j < 8 → (f j < 0 ↔ g j < 0)) : asksF f ins cmd = asksF g ins cmd := by
  obtain ⟨h1, h2⟩ := inN_congr ins 8 h
  unfold asksF
  rw [h1, h2]
theorem allN_fF (m : Nat) : ∀ k, allN (fF m) k = min k m := by
  intro k
  induction k with
  | zero => simp [allN]
  | succ k ih =>
    simp only [allN, ih]
    by_cases h : k < m
    · rw [show fF m k = 0 by simp [fF, h]]; simp; omega
    · rw [show fF m k = -1 by simp [fF, h]]; simp; omega
theorem inN_fF_stop (m : Nat) (ins : Nat → Bool) : ∀ d, inN (fF m) ins (m + d) = inN (fF m) ins m := by
  intro d
  induction d with
  | zero => rfl
  | succ d ih =>
    rw [← Nat.add_assoc]
    simp only [inN, ih]
    rw [show fF m (m + d) = -1 by simp [fF]]
    simp
set_option maxRecDepth 100000 in
set_option maxHeartbeats 2000000 in
theorem refasks_any (nodes long miss good fresh : Int) (pa sa ba ta : Option Addr) (pn pc sn sc bn bc tn tc : Nat) (vs : Array Value) (ins : Nat → Bool) (cmd md : Int) (w : World) (hp : pn ≤ 8) (hv : ViewIs vs ins cmd md) :
    Calls Tryd.prog 29 #[.agg #[.int .i64 nodes, .slice pa pn pc, .slice sa sn sc, .int .i64 long, .slice ba bn bc, .slice ta tn tc, .int .i64 miss, .int .i64 good, .int .i64 fresh], .agg vs] w fun e w' => e = .returned (.int .i64 (asksF (fF pn) ins cmd)) ∧ Below w.heap.size w w' := by
  have hb := ((Below.refl w.heap.size w).alloc (Nat.le_refl _) (.cells #[.int .i64 nodes, .slice pa pn pc, .slice sa sn sc, .int .i64 long, .slice ba bn bc, .slice ta tn tc, .int .i64 miss, .int .i64 good, .int .i64 fresh] 25)).alloc (by simp) (.cells vs 32)
  have hvb : ((w.alloc (.cells #[.int .i64 nodes, .slice pa pn pc, .slice sa sn sc, .int .i64 long, .slice ba bn bc, .slice ta tn tc, .int .i64 miss, .int .i64 good, .int .i64 fresh] 25)).alloc (.cells vs 32)).heap[w.heap.size + 1]? = some (.cells vs 32 (0, 0)) := heap_new _ _ _ (by simp)
  have h40 := (heap_cell hvb 40).trans hv.cmdc
  have HI := Lib.hid (fun k (hk : k < 8) => (heap_cell hvb k).trans (hv.insc k hk))
  have HB := Lib.hid hb
  have hi := inN_le (fF pn) ins 8
  have ha := allN_fF pn 8
  have hd : asksF (fF pn) ins cmd = if cmd < 0 ∨ inN (fF pn) ins 8 = 0 then 4 else if inN (fF pn) ins 8 = allN (fF pn) 8 then 1 else if inN (fF pn) ins 8 = 1 then 3 else 2 := rfl
  have hm : inN (fF pn) ins 8 = inN (fF pn) ins pn := by
    have := inN_fF_stop pn ins (8 - pn)
    rw [show pn + (8 - pn) = 8 by omega] at this
    exact this
  rw [ha, show min 8 pn = pn by omega] at hi hd
  rw [hm] at hi hd
  have HD := Lib.hid hd
  have HL := Lib.hid hi
  clear hb hvb hi ha hd hm
  go_enter Tryd.func29, Tryd.ntmps29
  go_wp2
  go_loopw [5, 6] (fun n i wr => ∃ k : Nat, k ≤ pn ∧ i = .int .i64 k ∧ n = .int .i64 (inN (fF pn) ins k) ∧ wr = (w.alloc (.cells #[.int .i64 nodes, .slice pa pn pc, .slice sa sn sc, .int .i64 long, .slice ba bn bc, .slice ta tn tc, .int .i64 miss, .int .i64 good, .int .i64 fresh] 25)).alloc (.cells vs 32)) (fun _ i _ => pn - (intOf i).toNat)
  case atStart => exact ⟨0, Nat.zero_le _, rfl, rfl, rfl⟩
  case round =>
    obtain ⟨k, hk, rfl, rfl, rfl⟩ := hrel
    have hle := inN_le (fF pn) ins k
    have hal := allN_le (fF pn) k
    by_cases hlt : k < pn
    · have hc := HI.out k (by omega)
      have hs : inN (fF pn) ins (k + 1) = inN (fF pn) ins k + if ins k then 1 else 0 := by
        simp only [inN]
        rw [show fF pn k = 0 by simp [fF, hlt]]
        simp
      have HS := Lib.hid hs
      clear hs
      cases hik : ins k
      · rw [hik] at hc HS
        clear hik
        go_wp2
        go_roundw
        case rel => exact ⟨k + 1, by omega, by go_num, by rw [HS.out]; rfl, by trivial⟩
        case measure => simp [intOf]; omega
      · rw [hik] at hc HS
        clear hik
        go_wp2
        go_roundw
        case rel => exact ⟨k + 1, by omega, by go_num, by rw [HS.out]; go_num, by trivial⟩
        case measure => simp [intOf]; omega
    · obtain rfl : k = pn := by omega
      clear hlt hal hle
      have hle := HL.out
      generalize inN (fF k) ins k = m at HD hle
      by_cases h1 : cmd < 0
      · go_wp2
        go_ret
        exact ⟨ret_int (by rw [HD.out]; simp [h1]), HB.out⟩
      · by_cases h2 : m = 0
        · subst h2
          go_wp2
          go_ret
          exact ⟨ret_int (by rw [HD.out]; simp), HB.out⟩
        · have b1 : ((m : Int) == 0) = false := by simp; omega
          by_cases h3 : m = k
          · subst h3
            go_wp2
            go_ret
            exact ⟨ret_int (by rw [HD.out]; simp [h1, h2]), HB.out⟩
          · have b2 : ((m : Int) == k) = false := by simp; omega
            have b2' : (m == k) = false := by simpa using h3
            by_cases h4 : m = 1
            · subst h4
              go_wp2
              go_ret
              exact ⟨ret_int (by rw [HD.out]; simp [h1, h3]), HB.out⟩
            · have b3 : ((m : Int) == 1) = false := by simp; omega
              go_wp2
              go_ret
              exact ⟨ret_int (by rw [HD.out]; simp [h1, h2, h3, h4]), HB.out⟩

set_option maxRecDepth 100000 in
set_option maxHeartbeats 2000000 in
theorem refnext_any (nodes long miss good fresh : Int) (pa sa ba ta : Option Addr) (pn pc sn sc bn bc tn tc : Nat) (vs : Array Value) (ins : Nat → Bool) (cmd : Int) (md r : Nat) (w : World) (hp : pn ≤ 8) (hv : ViewIs vs ins cmd md) (hr : asksF (fF pn) ins cmd = r) :
    Calls Tryd.prog 28 #[.agg #[.int .i64 nodes, .slice pa pn pc, .slice sa sn sc, .int .i64 long, .slice ba bn bc, .slice ta tn tc, .int .i64 miss, .int .i64 good, .int .i64 fresh], .agg vs] w fun e w' => e = .returned (.int .i64 (nextF r md : Nat)) ∧ Below w.heap.size w w' := by
  have hb := ((Below.refl w.heap.size w).alloc (Nat.le_refl _) (.cells #[.int .i64 nodes, .slice pa pn pc, .slice sa sn sc, .int .i64 long, .slice ba bn bc, .slice ta tn tc, .int .i64 miss, .int .i64 good, .int .i64 fresh] 25)).alloc (by simp) (.cells vs 32)
  have hvb : ((w.alloc (.cells #[.int .i64 nodes, .slice pa pn pc, .slice sa sn sc, .int .i64 long, .slice ba bn bc, .slice ta tn tc, .int .i64 miss, .int .i64 good, .int .i64 fresh] 25)).alloc (.cells vs 32)).heap[w.heap.size + 1]? = some (.cells vs 32 (0, 0)) := heap_new _ _ _ (by simp)
  have hsz : (Tryd.prog.info? 32).map (·.size) = some vs.size := by rw [hv.size]; kernel_rfl
  have has := refasks_any nodes long miss good fresh pa sa ba ta pn pc sn sc bn bc tn tc vs ins cmd md ((w.alloc (.cells #[.int .i64 nodes, .slice pa pn pc, .slice sa sn sc, .int .i64 long, .slice ba bn bc, .slice ta tn tc, .int .i64 miss, .int .i64 good, .int .i64 fresh] 25)).alloc (.cells vs 32)) hp hv
  rw [hr] at has
  have h41 := (heap_cell hvb 41).trans hv.mdc
  have hmd : md ≤ 255 := by have := hv.hi; omega
  have hr1 := asksF_bounds (fF pn) ins cmd
  rw [hr] at hr1
  have HV := Lib.hid hvb
  have HB := Lib.hid hb
  clear hb hvb
  go_enter Tryd.func28, Tryd.ntmps28
  go_wp2_with (first | (refine wpList_load_at (w.heap.size + 1) HV.out rfl Tryd.underlying32 rfl hsz ?_) | fail)
  refine Paused.mk ?_
  go_wp2_with fail
  refine has.mono ?_
  rintro e w1 ⟨rfl, hb1⟩
  have c41 : w1.cell? ⟨w.heap.size + 1, 41, none⟩ = some (.int .u8 md) := (hb1.cell (p := ⟨w.heap.size + 1, 41, none⟩) (by simp)).trans h41
  have HB1 := Lib.hid (HB.out.trans (hb1.mono (by simp; omega)))
  clear h41 hb1 has hsz
  have hed := refedge_any md r w1 hmd (by omega)
  have hw : ((r : Int) % 256) = r := by omega
  by_cases he : edgeB md r = true
  · have hn : nextF r md = r := if_pos he
    rw [he] at hed
    go_wp2_with (go_at_call 25; refine (hed).mono ?_; rintro e w' ⟨rfl, rfl⟩)
    go_ret
    exact ⟨ret_int (by rw [hn]), HB1.out⟩
  · have hm1 : 1 ≤ md := by
      by_cases h0 : md = 0
      · subst h0
        exact absurd (by simp [edgeB, edgeT]; omega) he
      · omega
    have hn : nextF r md = md - 1 := if_neg he
    rw [Bool.not_eq_true] at he
    rw [he] at hed
    go_wp2_with (go_at_call 25; refine (hed).mono ?_; rintro e w' ⟨rfl, rfl⟩)
    go_ret
    exact ⟨ret_int (by rw [hn]; go_num), HB1.out⟩
end Go.Proofs.YtibncdkekceokaaDoor
