/- hosts.Box: Get; NewBox of a net. -/
import Derived.Test.YtibncdkekceokaaDoorBox
namespace Go.Proofs.YtibncdkekceokaaDoor
open Go.RowKit

/-- Is there something of a pair, in a round? -/
def hasB (k : Kept) (r : Int) : Bool := isB r && (k.is && decide (k.round ≤ r))
set_option maxHeartbeats 4000000 in
theorem get_ok (g nb : Nat) (c : Cfg) (hok : CfgOK c) (fresh : Int) (ks : Nat → Kept) (i : Nat) (hi : i < c.ps.length) (r : Int) (w : World) (h : BoxAt w g (some ⟨nb, 0, none⟩) fresh ks) (hn : NetP w (some ⟨nb, 0, none⟩) c c.pairs) (ht : hasB (ks i) r = true) (h0 : 0 ≤ (ks i).round) :
    Calls Tryd.prog 64 #[.pointer (some ⟨g, 0, none⟩), .int .i64 (i : Int), .int .i64 r] w fun e w' => e = .returned (.tuple #[.agg #[.int .u8 (ks i).kind, .int .u8 (ks i).st, .int .u32 (ks i).seq, .int .u32 (ks i).val], .int .i64 (r - (ks i).round), .bool (decide (r - (ks i).round < fresh))]) ∧ Below w.heap.size w w' := by
  have hb := (Below.refl w.heap.size w).alloc (Nat.le_refl _) (.cells #[.int .u8 0, .int .u8 0, .int .u32 0, .int .u32 0] 96)
  obtain ⟨X, hX⟩ : ∃ X, X = w.alloc (.cells #[.int .u8 0, .int .u8 0, .int .u32 0, .int .u32 0] 96) := ⟨_, rfl⟩
  have hrow : X.heap[w.heap.size]? = some (.cells #[.int .u8 0, .int .u8 0, .int .u32 0, .int .u32 0] 96 (0, 0)) := by rw [hX]; exact heap_new _ _ _ rfl
  rw [← hX] at hb
  have hx := h.below hb
  have h8 := hok.p8
  have hi8 : i < 8 := by omega
  have b0 := hx.c0
  have b1 := hx.c1
  have t1 := calls_flip (there_yes g ⟨nb, 0, none⟩ _ b0)
  have f1 := netfirst_any (some ⟨nb, 0, none⟩) c c.pairs i _ (hn.below hb)
  have hin := first_in hok i hi
  rw [first_at hok i hi] at f1
  obtain ⟨a, ha⟩ : ∃ a, a = c.ps[i] := ⟨_, rfl⟩
  rw [← ha] at f1 hin
  have a0 := hin.1
  have da : decide (a < 0) = false := decide_eq_false (by omega)
  have hi0 : (i : Int) < 8 := by omega
  have i1 := calls_flip (is_any r X)
  simp only [hasB, Bool.and_eq_true, decide_eq_true_eq] at ht
  rw [ht.1] at i1
  have hr : 0 ≤ r ∧ r ≤ 1099511627776 := of_decide_eq_true ht.1
  have k0 : X.cell? ⟨g, 2 + i * 6, none⟩ = some (.bool (ks i).is) := hx.ck i 0 hi8 (by omega)
  have k1 : X.cell? ⟨g, 2 + i * 6 + 1, none⟩ = some (.int .i64 (ks i).round) := hx.ck i 1 hi8 (by omega)
  have k2 : X.cell? ⟨g, 2 + i * 6 + 2, none⟩ = some (.int .u8 (ks i).kind) := hx.ck i 2 hi8 (by omega)
  have k3 : X.cell? ⟨g, 2 + i * 6 + 3, none⟩ = some (.int .u8 (ks i).st) := hx.ck i 3 hi8 (by omega)
  have k4 : X.cell? ⟨g, 2 + i * 6 + 4, none⟩ = some (.int .u32 (ks i).seq) := hx.ck i 4 hi8 (by omega)
  have k5 : X.cell? ⟨g, 2 + i * 6 + 5, none⟩ = some (.int .u32 (ks i).val) := hx.ck i 5 hi8 (by omega)
  have hrn := ht.2.2
  rw [ht.2.1] at k0
  generalize (ks i).round = rn at k1 hrn h0 ⊢
  generalize (ks i).kind = kd at k2 ⊢
  generalize (ks i).st = st at k3 ⊢
  generalize (ks i).seq = sq at k4 ⊢
  generalize (ks i).val = vl at k5 ⊢
  have hr0 := hr.1
  have hr1 := hr.2
  have dr : decide (r < rn) = false := decide_eq_false (by omega)
  have q0 := heap_cell hrow 0
  have q1 := heap_cell hrow 1
  have q2 := heap_cell hrow 2
  have q3 := heap_cell hrow 3
  have e0 := heap_thawed hrow 0
  have e1 := heap_thawed hrow 1
  have e2 := heap_thawed hrow 2
  have e3 := heap_thawed hrow 3
  simp only [List.getElem?_toArray, List.getElem?_cons_zero, List.getElem?_cons_succ] at q0 q1 q2 q3
  have sg : g < X.heap.size := hx.lt
  have sgw : g < w.heap.size := h.lt
  have hne : ¬ g = w.heap.size := by omega
  have hne' : ¬ w.heap.size = g := by omega
  have sw : w.heap.size < X.heap.size := (Array.getElem?_eq_some_iff.1 hrow).1
  have HB := Lib.hid hb
  have HX := Lib.hid hX
  have HROW := Lib.hid hrow
  clear ht hb h hok hin ha hn hX hrow hx hr
  go_enter Tryd.func64, Tryd.ntmps64
  go_wp2_with fail
  rw [← HX.out]
  go_wp2_with (first | (go_at_call 92; refine (t1).mono ?_; rintro e w' ⟨rfl, rfl⟩) | (go_at_call 38; refine (f1).mono ?_; rintro e w' ⟨rfl, rfl⟩) | (go_at_call 88; refine (i1).mono ?_; rintro e w' ⟨rfl, rfl⟩) | fail)
  obtain ⟨Y, hY⟩ : ∃ Y, Y = X.alloc (.cells #[.bool true, .int .i64 rn, .int .u8 kd, .int .u8 st, .int .u32 sq, .int .u32 vl] 119) := ⟨_, rfl⟩
  rw [← hY]
  have hbY : Below X.heap.size X Y := by rw [hY]; exact (Below.refl _ _).alloc (Nat.le_refl _) _
  have y1 : Y.cell? ⟨g, 1, none⟩ = some (.int .i64 fresh) := (hbY.cell (p := ⟨g, 1, none⟩) sg).trans b1
  have rowY := (hbY.block _ sw).trans HROW.out
  have kY : Y.heap[X.heap.size]? = some (.cells #[.bool true, .int .i64 rn, .int .u8 kd, .int .u8 st, .int .u32 sq, .int .u32 vl] 119 (0, 0)) := by rw [hY]; exact heap_new _ _ _ rfl
  have yk2 := heap_cell kY 2
  have yk3 := heap_cell kY 3
  have yk4 := heap_cell kY 4
  have yk5 := heap_cell kY 5
  have yq0 := heap_cell rowY 0
  have yq1 := heap_cell rowY 1
  have yq2 := heap_cell rowY 2
  have yq3 := heap_cell rowY 3
  have yf0 := heap_thawed rowY 0
  have yf1 := heap_thawed rowY 1
  have yf2 := heap_thawed rowY 2
  have yf3 := heap_thawed rowY 3
  simp only [List.getElem?_toArray, List.getElem?_cons_zero, List.getElem?_cons_succ] at yk2 yk3 yk4 yk5 yq0 yq1 yq2 yq3
  have HRY := Lib.hid rowY
  have HBY := Lib.hid (HB.out.trans (hbY.mono HB.out.size))
  clear hY hbY kY rowY k0 k1 k2 k3 k4 k5 q0 q1 q2 q3 e0 e1 e2 e3 b0 b1 t1 i1
  go_region
  all_goals
    obtain ⟨Z, hZ⟩ : ∃ Z, Z = ((((Y.setCell ⟨w.heap.size, 0, none⟩ (.int .u8 kd)).setCell ⟨w.heap.size, 1, none⟩ (.int .u8 st)).setCell ⟨w.heap.size, 2, none⟩ (.int .u32 sq)).setCell ⟨w.heap.size, 3, none⟩ (.int .u32 vl)) := ⟨_, rfl⟩
    have HZ : Hid (Below w.heap.size w Z) := Lib.hid (by rw [hZ]; exact (((HBY.out.setCell (Nat.le_refl _) _).setCell (Nat.le_refl _) _).setCell (Nat.le_refl _) _).setCell (Nat.le_refl _) _)
    have rz : Z.heap[w.heap.size]? = some (.cells #[.int .u8 kd, .int .u8 st, .int .u32 sq, .int .u32 vl] 96 (0, 0)) := by rw [hZ]; exact heap_set_same (heap_set_same (heap_set_same (heap_set_same HRY.out 0 _) 1 _) 2 _) 3 _
    rw [← hZ]
    clear hZ yq0 yq1 yq2 yq3 yf0 yf1 yf2 yf3
    have z0 := heap_cell rz 0
    have z1 := heap_cell rz 1
    have z2 := heap_cell rz 2
    have z3 := heap_cell rz 3
    simp only [List.getElem?_toArray, List.getElem?_cons_zero, List.getElem?_cons_succ] at z0 z1 z2 z3
    clear rz
    go_wp2
    refine bodyPost_ret (v := .tuple #[.agg #[.int .u8 kd, .int .u8 st, .int .u32 sq, .int .u32 vl], .int .i64 (r - rn), .bool (decide (r - rn < fresh))]) (by simp [results, Tryd.results64, go_sem, z0, z1, z2, z3]) rfl ⟨rfl, ?_⟩
    exact HZ.out.drew
set_option maxHeartbeats 4000000 in
theorem get_no (g nb : Nat) (c : Cfg) (hok : CfgOK c) (fresh : Int) (ks : Nat → Kept) (pair r : Int) (w : World) (h : BoxAt w g (some ⟨nb, 0, none⟩) fresh ks) (hn : NetP w (some ⟨nb, 0, none⟩) c c.pairs) (ht : ¬ (0 ≤ pair ∧ pair < c.ps.length) ∨ hasB (ks pair.toNat) r = false) :
    Calls Tryd.prog 64 #[.pointer (some ⟨g, 0, none⟩), .int .i64 pair, .int .i64 r] w fun e w' => e = .returned (.tuple #[.agg #[.int .u8 0, .int .u8 0, .int .u32 0, .int .u32 0], .int .i64 (-1), .bool false]) ∧ Below w.heap.size w w' := by
  have hb := (Below.refl w.heap.size w).alloc (Nat.le_refl _) (.cells #[.int .u8 0, .int .u8 0, .int .u32 0, .int .u32 0] 96)
  obtain ⟨X, hX⟩ : ∃ X, X = w.alloc (.cells #[.int .u8 0, .int .u8 0, .int .u32 0, .int .u32 0] 96) := ⟨_, rfl⟩
  have hrow : X.heap[w.heap.size]? = some (.cells #[.int .u8 0, .int .u8 0, .int .u32 0, .int .u32 0] 96 (0, 0)) := by rw [hX]; exact heap_new _ _ _ rfl
  rw [← hX] at hb
  have hx := h.below hb
  have h8 := hok.p8
  have b0 := hx.c0
  have t1 := calls_flip (there_yes g ⟨nb, 0, none⟩ _ b0)
  have f1 := netfirst_any (some ⟨nb, 0, none⟩) c c.pairs pair _ (hn.below hb)
  have i1 := calls_flip (is_any r X)
  have q0 := heap_cell hrow 0
  have q1 := heap_cell hrow 1
  have q2 := heap_cell hrow 2
  have q3 := heap_cell hrow 3
  have e0 := heap_thawed hrow 0
  have e1 := heap_thawed hrow 1
  have e2 := heap_thawed hrow 2
  have e3 := heap_thawed hrow 3
  simp only [List.getElem?_toArray, List.getElem?_cons_zero, List.getElem?_cons_succ] at q0 q1 q2 q3
  have sg : g < X.heap.size := hx.lt
  have sw : w.heap.size < X.heap.size := (Array.getElem?_eq_some_iff.1 hrow).1
  have HB := Lib.hid hb
  have HX := Lib.hid hX
  by_cases hv : 0 ≤ pair ∧ pair < c.ps.length
  · have ht' : hasB (ks pair.toNat) r = false := ht.resolve_left (fun hn => hn hv)
    obtain ⟨i, rfl⟩ : ∃ i : Nat, pair = i := ⟨pair.toNat, by omega⟩
    rw [Int.toNat_natCast] at ht'
    have hi : i < c.ps.length := by omega
    have hi8 : i < 8 := by omega
    have hin := first_in hok i hi
    rw [first_at hok i hi] at f1
    obtain ⟨a, ha⟩ : ∃ a, a = c.ps[i] := ⟨_, rfl⟩
    rw [← ha] at f1 hin
    have a0 := hin.1
    have da : decide (a < 0) = false := decide_eq_false (by omega)
    have hi0 : (i : Int) < 8 := by omega
    have k0 : X.cell? ⟨g, 2 + i * 6, none⟩ = some (.bool (ks i).is) := hx.ck i 0 hi8 (by omega)
    have k1 : X.cell? ⟨g, 2 + i * 6 + 1, none⟩ = some (.int .i64 (ks i).round) := hx.ck i 1 hi8 (by omega)
    have k2 : X.cell? ⟨g, 2 + i * 6 + 2, none⟩ = some (.int .u8 (ks i).kind) := hx.ck i 2 hi8 (by omega)
    have k3 : X.cell? ⟨g, 2 + i * 6 + 3, none⟩ = some (.int .u8 (ks i).st) := hx.ck i 3 hi8 (by omega)
    have k4 : X.cell? ⟨g, 2 + i * 6 + 4, none⟩ = some (.int .u32 (ks i).seq) := hx.ck i 4 hi8 (by omega)
    have k5 : X.cell? ⟨g, 2 + i * 6 + 5, none⟩ = some (.int .u32 (ks i).val) := hx.ck i 5 hi8 (by omega)
    simp only [hasB, Bool.and_eq_false_iff] at ht'
    have HT := Lib.hid ht'
    generalize (ks i).is = ib at k0 HT
    generalize (ks i).round = rn at k1 HT
    generalize (ks i).kind = kd at k2
    generalize (ks i).st = st at k3
    generalize (ks i).seq = sq at k4
    generalize (ks i).val = vl at k5
    clear ht ht' hv hi hx h hok hn hb ha hin hX hrow
    by_cases hr : isB r = true
    · rw [hr] at i1
      have hdr : ib = true → decide (r < rn) = true := fun e => by
        have := HT.out
        rw [hr, e] at this
        simpa using this
      clear hr
      cases ib
      all_goals
        try (have dr := hdr rfl)
        clear hdr
        go_enter Tryd.func64, Tryd.ntmps64
        go_wp2_with fail
        rw [← HX.out]
        go_wp2_with (first | (go_at_call 92; refine (t1).mono ?_; rintro e w' ⟨rfl, rfl⟩) | (go_at_call 38; refine (f1).mono ?_; rintro e w' ⟨rfl, rfl⟩) | (go_at_call 88; refine (i1).mono ?_; rintro e w' ⟨rfl, rfl⟩) | fail)
        refine bodyPost_ret (v := .tuple #[.agg #[.int .u8 0, .int .u8 0, .int .u32 0, .int .u32 0], .int .i64 (-1), .bool false]) (by simp [results, Tryd.results64, go_sem, q0, q1, q2, q3, sw]) rfl ⟨rfl, ?_⟩
        first | exact (((((HB.out.alloc HB.out.size _).setCell (Nat.le_refl _) _).setCell (Nat.le_refl _) _).setCell (Nat.le_refl _) _).setCell (Nat.le_refl _) _) | exact (((((HB.out.setCell (Nat.le_refl _) _).setCell (Nat.le_refl _) _).setCell (Nat.le_refl _) _).setCell (Nat.le_refl _) _).alloc (by simp; exact HB.out.size) _)
    · rw [show isB r = false by simpa using hr] at i1
      clear hr
      go_enter Tryd.func64, Tryd.ntmps64
      go_wp2_with fail
      rw [← HX.out]
      go_wp2_with (first | (go_at_call 92; refine (t1).mono ?_; rintro e w' ⟨rfl, rfl⟩) | (go_at_call 38; refine (f1).mono ?_; rintro e w' ⟨rfl, rfl⟩) | (go_at_call 88; refine (i1).mono ?_; rintro e w' ⟨rfl, rfl⟩) | fail)
      refine bodyPost_ret (v := .tuple #[.agg #[.int .u8 0, .int .u8 0, .int .u32 0, .int .u32 0], .int .i64 (-1), .bool false]) (by simp [results, Tryd.results64, go_sem, q0, q1, q2, q3]) rfl ⟨rfl, ?_⟩
      exact ((((HB.out.setCell (Nat.le_refl _) _).setCell (Nat.le_refl _) _).setCell (Nat.le_refl _) _).setCell (Nat.le_refl _) _)
  · rw [first_none hok pair hv] at f1
    clear ht hv hx h hok hn hb hX hrow
    go_enter Tryd.func64, Tryd.ntmps64
    go_wp2_with fail
    rw [← HX.out]
    go_wp2_with (first | (go_at_call 92; refine (t1).mono ?_; rintro e w' ⟨rfl, rfl⟩) | (go_at_call 38; refine (f1).mono ?_; rintro e w' ⟨rfl, rfl⟩) | (go_at_call 88; refine (i1).mono ?_; rintro e w' ⟨rfl, rfl⟩) | fail)
    refine bodyPost_ret (v := .tuple #[.agg #[.int .u8 0, .int .u8 0, .int .u32 0, .int .u32 0], .int .i64 (-1), .bool false]) (by simp [results, Tryd.results64, go_sem, q0, q1, q2, q3]) rfl ⟨rfl, ?_⟩
    exact ((((HB.out.setCell (Nat.le_refl _) _).setCell (Nat.le_refl _) _).setCell (Nat.le_refl _) _).setCell (Nat.le_refl _) _)

set_option maxHeartbeats 2000000 in
theorem given_any (b : Nat) (pa sa ba ta qa : Option Addr) (c : Cfg) (hok : CfgOK c) (w : World) (hv : NetV w b c c.pairs pa sa ba ta qa) :
    Calls Tryd.prog 43 #[.pointer (some ⟨b, 0, none⟩)] w fun e w' => ∃ p s q t, e = .returned (.agg #[.int .i64 c.nodes, .slice p c.ps.length c.ps.length, .slice s c.ss.length c.ss.length, .int .i64 c.long, .slice q c.bs.length c.bs.length, .slice t c.ts.length c.ts.length, .int .i64 c.miss, .int .i64 c.good, .int .i64 c.fresh]) ∧ Below w.heap.size w w' := by
  have hb := (Below.refl w.heap.size w).alloc (Nat.le_refl _) (.cells #[.int .i64 0, .slice none 0 0, .slice none 0 0, .int .i64 0, .slice none 0 0, .slice none 0 0, .int .i64 0, .int .i64 0, .int .i64 0] 25)
  obtain ⟨X, hX⟩ : ∃ X, X = w.alloc (.cells #[.int .i64 0, .slice none 0 0, .slice none 0 0, .int .i64 0, .slice none 0 0, .slice none 0 0, .int .i64 0, .int .i64 0, .int .i64 0] 25) := ⟨_, rfl⟩
  have hrow : X.heap[w.heap.size]? = some (.cells #[.int .i64 0, .slice none 0 0, .slice none 0 0, .int .i64 0, .slice none 0 0, .slice none 0 0, .int .i64 0, .int .i64 0, .int .i64 0] 25 (0, 0)) := by rw [hX]; exact heap_new _ _ _ rfl
  rw [← hX] at hb
  have hx := hv.below hb
  have hnp : NetP X (some ⟨b, 0, none⟩) c c.pairs := .inr ⟨b, pa, sa, ba, ta, qa, rfl, hx⟩
  have t1 := there_any (some ⟨b, 0, none⟩) c c.pairs X hnp
  rw [decide_eq_true (pairs_pos' hok)] at t1
  have o1 := own_any c.nodes c.long c.miss c.good c.fresh pa sa ba ta c.ps.length c.ps.length c.ss.length c.ss.length c.bs.length c.bs.length c.ts.length c.ts.length c.ps c.ss c.bs c.ts X hx.op hx.os hx.ob hx.ot hx.rp hx.rs hx.rb hx.rt (by have := hok.p8; omega) (by have := hok.s16; omega) (by have := hok.bl; have := hok.n16; omega) (by have := hok.t8; omega)
  have O1 := Lib.hid o1
  have c0 := hx.c0
  have c1 := hx.c1
  have c2 := hx.c2
  have c3 := hx.c3
  have c4 := hx.c4
  have c5 := hx.c5
  have c6 := hx.c6
  have c7 := hx.c7
  have c8 := hx.c8
  have HX := Lib.hid hX
  have HB := Lib.hid hb
  have HROW := Lib.hid hrow
  clear hx hv hnp o1 hX hb hrow hok
  generalize c.nodes = nodes at *
  generalize c.long = long at *
  generalize c.miss = miss at *
  generalize c.good = good at *
  generalize c.fresh = fresh at *
  go_enter Tryd.func43, Tryd.ntmps43
  go_wp2_with fail
  rw [← HX.out]
  go_wp2_with (first | (go_at_call 77; refine (t1).mono ?_; rintro e w' ⟨rfl, rfl⟩) | fail)
  refine O1.out.mono ?_
  rintro e W1 ⟨pv, sv, bv, tv, m1, m2, m3, rfl, h1, h2, h3, h4, _, _, _, _, hb1⟩
  obtain ⟨ap, rfl, _⟩ := h1.1.value
  obtain ⟨as_, rfl, _⟩ := h2.1.value
  obtain ⟨ab, rfl, _⟩ := h3.1.value
  obtain ⟨at_, rfl, _⟩ := h4.1.value
  have r1 := (hb1.block _ (Array.getElem?_eq_some_iff.1 HROW.out).1).trans HROW.out
  have HB1 := Lib.hid (HB.out.trans (hb1.mono HB.out.size))
  have q0 := heap_cell r1 0
  have f0 := heap_thawed r1 0
  have q1 := heap_cell r1 1
  have f1 := heap_thawed r1 1
  have q2 := heap_cell r1 2
  have f2 := heap_thawed r1 2
  have q3 := heap_cell r1 3
  have f3 := heap_thawed r1 3
  have q4 := heap_cell r1 4
  have f4 := heap_thawed r1 4
  have q5 := heap_cell r1 5
  have f5 := heap_thawed r1 5
  have q6 := heap_cell r1 6
  have f6 := heap_thawed r1 6
  have q7 := heap_cell r1 7
  have f7 := heap_thawed r1 7
  have q8 := heap_cell r1 8
  have f8 := heap_thawed r1 8
  simp only [List.getElem?_toArray, List.getElem?_cons_zero, List.getElem?_cons_succ] at q0 q1 q2 q3 q4 q5 q6 q7 q8
  clear r1 hb1 h1 h2 h3 h4 t1
  go_wp2
  refine bodyPost_ret (v := .agg #[.int .i64 nodes, .slice ap c.ps.length c.ps.length, .slice as_ c.ss.length c.ss.length, .int .i64 long, .slice ab c.bs.length c.bs.length, .slice at_ c.ts.length c.ts.length, .int .i64 miss, .int .i64 good, .int .i64 fresh]) (by simp [results, Tryd.results43, go_sem, q0, q1, q2, q3, q4, q5, q6, q7, q8]) rfl ⟨_, _, _, _, rfl, ?_⟩
  exact (((((((((HB1.out.setCell (Nat.le_refl _) _).setCell (Nat.le_refl _) _).setCell (Nat.le_refl _) _).setCell (Nat.le_refl _) _).setCell (Nat.le_refl _) _).setCell (Nat.le_refl _) _).setCell (Nat.le_refl _) _).setCell (Nat.le_refl _) _).setCell (Nat.le_refl _) _)
theorem run_field8 (W : World) (n l m g f : Int) (p s q t : Option Addr) (a b c d a' b' c' d' : Nat) : (Instr.field 25 (.agg #[.int .i64 n, .slice p a a', .slice s b b', .int .i64 l, .slice q c c', .slice t d d', .int .i64 m, .int .i64 g, .int .i64 f]) 8).run Tryd.prog W = .ok (.int .i64 f) W := by kernel_rfl
attribute [local go_sem] run_field8
set_option maxRecDepth 100000 in
set_option maxHeartbeats 4000000 in
theorem newbox_ok (b : Nat) (pa sa ba ta qa : Option Addr) (c : Cfg) (hok : CfgOK c) (w : World) (hv : NetV w b c c.pairs pa sa ba ta qa) :
    Calls Tryd.prog 61 #[.pointer (some ⟨b, 0, none⟩)] w fun e w' => ∃ g, e = .returned (.pointer (some ⟨g, 0, none⟩)) ∧ w.heap.size ≤ g ∧ BoxAt w' g (some ⟨b, 0, none⟩) c.fresh (fun _ => Kept.none) ∧ Below w.heap.size w w' := by
  have h1 := netround_any (some ⟨b, 0, none⟩) c c.pairs w (.inr ⟨b, pa, sa, ba, ta, qa, rfl, hv⟩) (rq_ok hok)
  have hz : (roundF c.pairs c == 0) = false := by have := round_ne hok; simpa using this
  have G1 : Hid (∀ k, Calls Tryd.prog 43 #[.pointer (some ⟨b, 0, none⟩)] (w.drewN k) fun e w' => ∃ p s q t, e = .returned (.agg #[.int .i64 c.nodes, .slice p c.ps.length c.ps.length, .slice s c.ss.length c.ss.length, .int .i64 c.long, .slice q c.bs.length c.bs.length, .slice t c.ts.length c.ts.length, .int .i64 c.miss, .int .i64 c.good, .int .i64 c.fresh]) ∧ Below w.heap.size w w') := Lib.hid fun k =>
    (given_any b pa sa ba ta qa c hok (w.drewN k) (hv.drawn k)).mono fun e w' ⟨p, s, q, t, h1, h2⟩ => ⟨p, s, q, t, h1, (below_drawn w k).trans h2⟩
  generalize roundF c.pairs c = rd at h1 hz
  clear hv hok
  go_enter Tryd.func61, Tryd.ntmps61
  go_wp2_with (go_at_call 36; refine (h1).mono ?_; rintro e w' ⟨rfl, k, rfl⟩)
  refine (G1.out k).mono ?_
  rintro e W1 ⟨p, s, q, t, rfl, hb1⟩
  go_wp2
  go_ret
  refine ⟨W1.heap.size, rfl, hb1.size, ⟨_, heap_new _ _ _ rfl, rfl, rfl, rfl, ?_⟩, hb1.alloc hb1.size _⟩
  intro i hi j hj
  have hi' : i = 0 ∨ i = 1 ∨ i = 2 ∨ i = 3 ∨ i = 4 ∨ i = 5 ∨ i = 6 ∨ i = 7 := by omega
  have hj' : j = 0 ∨ j = 1 ∨ j = 2 ∨ j = 3 ∨ j = 4 ∨ j = 5 := by omega
  rcases hi' with rfl | rfl | rfl | rfl | rfl | rfl | rfl | rfl <;> rcases hj' with rfl | rfl | rfl | rfl | rfl | rfl <;> rfl
end Go.Proofs.YtibncdkekceokaaDoor
