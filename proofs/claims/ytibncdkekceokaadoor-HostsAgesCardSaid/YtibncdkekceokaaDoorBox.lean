/- hosts.Box: what is kept of each pair; a new box; Put; Get. -/
import Derived.Test.YtibncdkekceokaaDoorOffer
import Derived.Test.YtibncdkekceokaaDoorLives04
import Derived.Test.YtibncdkekceokaaDoorConfigsVoid
import Derived.Test.YtibncdkekceokaaDoorWinP
namespace Go.Proofs.YtibncdkekceokaaDoor
open Go.RowKit

/-- What is kept of a pair. -/
structure Kept where
  is : Bool
  round : Int
  kind : Int
  st : Int
  seq : Int
  val : Int
def Kept.cells (k : Kept) : List Value := [.bool k.is, .int .i64 k.round, .int .u8 k.kind, .int .u8 k.st, .int .u32 k.seq, .int .u32 k.val]
def Kept.none : Kept := ⟨false, 0, 0, 0, 0, 0⟩
/-- A box in memory. -/
structure BoxAt (w : World) (g : Nat) (p : Option Addr) (fresh : Int) (ks : Nat → Kept) : Prop where
  ex : ∃ cs, w.heap[g]? = some (.cells cs 122 (0, 0)) ∧ cs.size = 50 ∧ cs[0]? = some (.pointer p) ∧ cs[1]? = some (.int .i64 fresh) ∧ ∀ i, i < 8 → ∀ j, j < 6 → cs[2 + i * 6 + j]? = (ks i).cells[j]?
theorem BoxAt.kept {w w' : World} {g : Nat} {p : Option Addr} {fresh : Int} {ks : Nat → Kept} (h : BoxAt w g p fresh ks) (hk : w'.heap[g]? = w.heap[g]?) : BoxAt w' g p fresh ks := by
  obtain ⟨cs, h1, h2⟩ := h.ex
  exact ⟨cs, hk.trans h1, h2⟩
theorem BoxAt.lt {w : World} {g : Nat} {p : Option Addr} {fresh : Int} {ks : Nat → Kept} (h : BoxAt w g p fresh ks) : g < w.heap.size := by
  obtain ⟨cs, h1, _⟩ := h.ex
  exact (Array.getElem?_eq_some_iff.1 h1).1
theorem BoxAt.below {w w' : World} {g : Nat} {p : Option Addr} {fresh : Int} {ks : Nat → Kept} (h : BoxAt w g p fresh ks) (hb : Below w.heap.size w w') : BoxAt w' g p fresh ks := h.kept (hb.block g h.lt)
theorem BoxAt.c0 {w : World} {g : Nat} {p : Option Addr} {fresh : Int} {ks : Nat → Kept} (h : BoxAt w g p fresh ks) : w.cell? ⟨g, 0, none⟩ = some (.pointer p) := by
  obtain ⟨cs, h1, _, h3, _⟩ := h.ex
  exact (heap_cell h1 0).trans h3
theorem BoxAt.c1 {w : World} {g : Nat} {p : Option Addr} {fresh : Int} {ks : Nat → Kept} (h : BoxAt w g p fresh ks) : w.cell? ⟨g, 1, none⟩ = some (.int .i64 fresh) := by
  obtain ⟨cs, h1, _, _, h4, _⟩ := h.ex
  exact (heap_cell h1 1).trans h4
theorem BoxAt.ck {w : World} {g : Nat} {p : Option Addr} {fresh : Int} {ks : Nat → Kept} (h : BoxAt w g p fresh ks) (i j : Nat) (hi : i < 8) (hj : j < 6) : w.cell? ⟨g, 2 + i * 6 + j, none⟩ = (ks i).cells[j]? := by
  obtain ⟨cs, h1, _, _, _, h5⟩ := h.ex
  exact (heap_cell h1 _).trans (h5 i hi j hj)
theorem BoxAt.thaw {w : World} {g : Nat} {p : Option Addr} {fresh : Int} {ks : Nat → Kept} (h : BoxAt w g p fresh ks) (o : Nat) : w.frozen? ⟨g, o, none⟩ = false := by
  obtain ⟨cs, h1, _⟩ := h.ex
  exact heap_thawed h1 o
def putK (ks : Nat → Kept) (i : Nat) (k : Kept) : Nat → Kept := fun j => if j = i then k else ks j
theorem BoxAt.set {w : World} {g : Nat} {p : Option Addr} {fresh : Int} {ks : Nat → Kept} (h : BoxAt w g p fresh ks) (i : Nat) (hi : i < 8) (k : Kept) :
    BoxAt ((((((w.setCell ⟨g, 2 + i * 6, none⟩ (.bool k.is)).setCell ⟨g, 2 + i * 6 + 1, none⟩ (.int .i64 k.round)).setCell ⟨g, 2 + i * 6 + 2, none⟩ (.int .u8 k.kind)).setCell ⟨g, 2 + i * 6 + 3, none⟩ (.int .u8 k.st)).setCell ⟨g, 2 + i * 6 + 4, none⟩ (.int .u32 k.seq)).setCell ⟨g, 2 + i * 6 + 5, none⟩ (.int .u32 k.val)) g p fresh (putK ks i k) := by
  obtain ⟨cs, h1, h2, h3, h4, h5⟩ := h.ex
  refine ⟨_, heap_set_same (heap_set_same (heap_set_same (heap_set_same (heap_set_same (heap_set_same h1 (2 + i * 6) _) (2 + i * 6 + 1) _) (2 + i * 6 + 2) _) (2 + i * 6 + 3) _) (2 + i * 6 + 4) _) (2 + i * 6 + 5) _, by simp [h2], ?_, ?_, ?_⟩
  · simp only [Array.getElem?_setIfInBounds]
    rw [if_neg (by omega), if_neg (by omega), if_neg (by omega), if_neg (by omega), if_neg (by omega), if_neg (by omega)]
    exact h3
  · simp only [Array.getElem?_setIfInBounds]
    rw [if_neg (by omega), if_neg (by omega), if_neg (by omega), if_neg (by omega), if_neg (by omega), if_neg (by omega)]
    exact h4
  · intro i' hi' j hj
    simp only [Array.getElem?_setIfInBounds, Array.size_setIfInBounds, h2]
    unfold putK
    by_cases e : i' = i
    · subst e
      rw [if_pos rfl]
      rcases j with _ | _ | _ | _ | _ | _ | j
      · rw [if_neg (by omega), if_neg (by omega), if_neg (by omega), if_neg (by omega), if_neg (by omega), if_pos (by omega), if_pos (by omega)]; rfl
      · rw [if_neg (by omega), if_neg (by omega), if_neg (by omega), if_neg (by omega), if_pos (by omega), if_pos (by omega)]; rfl
      · rw [if_neg (by omega), if_neg (by omega), if_neg (by omega), if_pos (by omega), if_pos (by omega)]; rfl
      · rw [if_neg (by omega), if_neg (by omega), if_pos (by omega), if_pos (by omega)]; rfl
      · rw [if_neg (by omega), if_pos (by omega), if_pos (by omega)]; rfl
      · rw [if_pos (by omega), if_pos (by omega)]; rfl
      · omega
    · rw [if_neg e, if_neg (by omega), if_neg (by omega), if_neg (by omega), if_neg (by omega), if_neg (by omega), if_neg (by omega)]
      exact h5 i' hi' j hj

/-- A box that is not there, or that no call made. -/
def VoidBox (w : World) (b : Option Addr) : Prop := b = none ∨ ∃ g, b = some ⟨g, 0, none⟩ ∧ w.cell? ⟨g, 0, none⟩ = some (.pointer none)
theorem VoidBox.below {w w' : World} {b : Option Addr} (h : VoidBox w b) (hb : Below w.heap.size w w') : VoidBox w' b := by
  rcases h with h | ⟨g, h1, h2⟩
  · exact .inl h
  · exact .inr ⟨g, h1, (hb.cell (p := ⟨g, 0, none⟩) (World.block_lt_of_cell? w _ h2)).trans h2⟩
theorem there_void (b : Option Addr) (w : World) (h : VoidBox w b) :
    Calls Tryd.prog 92 #[.pointer b] w fun e w' => e = .returned (.bool false) ∧ w' = w := by
  rcases h with rfl | ⟨g, rfl, hc⟩
  · go_enter Tryd.func92, Tryd.ntmps92
    go_wp2
    go_ret
    exact ⟨rfl, rfl⟩
  · go_enter Tryd.func92, Tryd.ntmps92
    go_wp2
    go_ret
    exact ⟨rfl, rfl⟩
theorem there_yes (g : Nat) (p : Addr) (w : World) (hc : w.cell? ⟨g, 0, none⟩ = some (.pointer (some p))) :
    Calls Tryd.prog 92 #[.pointer (some ⟨g, 0, none⟩)] w fun e w' => e = .returned (.bool true) ∧ w' = w := by
  go_enter Tryd.func92, Tryd.ntmps92
  go_wp2
  go_ret
  exact ⟨rfl, rfl⟩
theorem put_void (b : Option Addr) (pair k s q v r : Int) (w : World) (h : VoidBox w b) :
    Calls Tryd.prog 62 #[.pointer b, .int .i64 pair, .agg #[.int .u8 k, .int .u8 s, .int .u32 q, .int .u32 v], .int .i64 r] w fun e w' => e = .returned (.int .i64 2) ∧ Below w.heap.size w w' := by
  have hb := (Below.refl w.heap.size w).alloc (Nat.le_refl _) (.cells #[.int .u8 k, .int .u8 s, .int .u32 q, .int .u32 v] 96)
  have h1 := there_void b _ (h.below hb)
  have HB := Lib.hid hb
  clear hb h
  go_enter Tryd.func62, Tryd.ntmps62
  go_wp2_with (go_at_call 92; refine (h1).mono ?_; rintro e w' ⟨rfl, rfl⟩)
  go_ret
  exact ⟨rfl, HB.out⟩
theorem get_void (b : Option Addr) (pair r : Int) (w : World) (h : VoidBox w b) :
    Calls Tryd.prog 64 #[.pointer b, .int .i64 pair, .int .i64 r] w fun e w' => e = .returned (.tuple #[.agg #[.int .u8 0, .int .u8 0, .int .u32 0, .int .u32 0], .int .i64 (-1), .bool false]) ∧ Below w.heap.size w w' := by
  have hb := (Below.refl w.heap.size w).alloc (Nat.le_refl _) (.cells #[.int .u8 0, .int .u8 0, .int .u32 0, .int .u32 0] 96)
  have h1 := there_void b _ (h.below hb)
  have HB := Lib.hid hb
  clear hb h
  go_enter Tryd.func64, Tryd.ntmps64
  go_wp2_with (go_at_call 92; refine (h1).mono ?_; rintro e w' ⟨rfl, rfl⟩)
  refine bodyPost_ret (v := .tuple #[.agg #[.int .u8 0, .int .u8 0, .int .u32 0, .int .u32 0], .int .i64 (-1), .bool false]) (by simp [results, Tryd.results64, go_sem]) rfl ⟨rfl, ?_⟩
  exact HB.out
theorem newbox_void (p : Option Addr) (c : Cfg) (w : World) (h : NetP w p c []) :
    Calls Tryd.prog 61 #[.pointer p] w fun e w' => e = .returned (.pointer none) ∧ Below w.heap.size w w' := by
  have h1 := netround_any p c [] w h (fun h => absurd h (by simp))
  rw [show roundF [] c = 0 from rfl] at h1
  go_enter Tryd.func61, Tryd.ntmps61
  go_wp2_with (go_at_call 36; refine (h1).mono ?_; rintro e w' ⟨rfl, k, rfl⟩)
  go_ret
  exact ⟨rfl, below_drawn w k⟩

theorem gset (W : World) (b i : Nat) (v : Value) : W.grownBy (W.setCell ⟨b, i, none⟩ v) (some b) :=
  ⟨rfl, rfl, rfl, by simp, fun k _ hk => Below.heap_setCell _ _ _ k (fun e => hk (by rw [e]))⟩
theorem gtrans {A B C : World} {row : Option Nat} (h : A.grownBy B row) (h2 : B.grownBy C row) : A.grownBy C row :=
  ⟨h2.os.trans h.os, h2.tape.trans h.tape, h2.output.trans h.output, Nat.le_trans h.size h2.size, fun k hk hr => (h2.block k (Nat.lt_of_lt_of_le hk h.size) hr).trans (h.block k hk hr)⟩
theorem gdrew (W : World) (row : Option Nat) : W.grownBy W.drew row := ⟨rfl, rfl, rfl, Nat.le_refl _, fun _ _ _ => rfl⟩
/-- Is what comes for a pair taken? -/
def takesB (k : Kept) (r : Int) : Bool := isB r && (!k.is || decide (k.round ≤ r))
set_option maxHeartbeats 4000000 in
theorem put_ok (g nb : Nat) (c : Cfg) (hok : CfgOK c) (fresh : Int) (ks : Nat → Kept) (i : Nat) (hi : i < c.ps.length) (k s q v r : Int) (w : World) (h : BoxAt w g (some ⟨nb, 0, none⟩) fresh ks) (hn : NetP w (some ⟨nb, 0, none⟩) c c.pairs) (ht : takesB (ks i) r = true) :
    Calls Tryd.prog 62 #[.pointer (some ⟨g, 0, none⟩), .int .i64 (i : Int), .agg #[.int .u8 k, .int .u8 s, .int .u32 q, .int .u32 v], .int .i64 r] w fun e w' => e = .returned (.int .i64 0) ∧ BoxAt w' g (some ⟨nb, 0, none⟩) fresh (putK ks i ⟨true, r, k, s, q, v⟩) ∧ w.grownBy w' (some g) := by
  have hb := (Below.refl w.heap.size w).alloc (Nat.le_refl _) (.cells #[.int .u8 k, .int .u8 s, .int .u32 q, .int .u32 v] 96)
  have hx := h.below hb
  have h8 := hok.p8
  have hi8 : i < 8 := by omega
  have b0 := hx.c0
  have t1 := there_yes g ⟨nb, 0, none⟩ _ b0
  have f1 := netfirst_any (some ⟨nb, 0, none⟩) c c.pairs i _ (hn.below hb)
  have hf := first_at hok i hi
  have hin := first_in hok i hi
  rw [hf] at f1
  obtain ⟨a, ha⟩ : ∃ a, a = c.ps[i] := ⟨_, rfl⟩
  rw [← ha] at f1 hin
  have a0 := hin.1
  have i1 := is_any r (w.alloc (.cells #[.int .u8 k, .int .u8 s, .int .u32 q, .int .u32 v] 96))
  simp only [takesB, Bool.and_eq_true, Bool.or_eq_true] at ht
  rw [ht.1] at i1
  have k0 : (w.alloc (.cells #[.int .u8 k, .int .u8 s, .int .u32 q, .int .u32 v] 96)).cell? ⟨g, 2 + i * 6, none⟩ = some (.bool (ks i).is) := hx.ck i 0 hi8 (by omega)
  have k1 : (w.alloc (.cells #[.int .u8 k, .int .u8 s, .int .u32 q, .int .u32 v] 96)).cell? ⟨g, 2 + i * 6 + 1, none⟩ = some (.int .i64 (ks i).round) := hx.ck i 1 hi8 (by omega)
  have HT := Lib.hid ht
  have HX := Lib.hid hx
  have hgl := h.lt
  obtain ⟨ib, hib⟩ : ∃ ib, ib = (ks i).is := ⟨_, rfl⟩
  obtain ⟨rn, hrn⟩ : ∃ rn, rn = (ks i).round := ⟨_, rfl⟩
  rw [← hib] at k0
  rw [← hrn] at k1
  have HIB := Lib.hid hib
  have HRN := Lib.hid hrn
  have da : decide (a < 0) = false := decide_eq_false (by omega)
  have di : decide ((i : Int) < 8) = true := decide_eq_true (by omega)
  have hi0 : (i : Int) < 8 := by omega
  clear ht hb hx h hok hin ha hf hn hib hrn
  have dr : ib = true → decide (r < rn) = false := fun e => by
    have h2 := HT.out.2
    rw [← HIB.out, ← HRN.out, e] at h2
    exact decide_eq_false (by simpa using h2)
  cases ib
  all_goals
    try (have dr' := dr rfl)
    clear dr
    go_enter Tryd.func62, Tryd.ntmps62
    go_wp2_with (first | (go_at_call 92; refine (t1).mono ?_; rintro e w' ⟨rfl, rfl⟩) | (go_at_call 38; refine (f1).mono ?_; rintro e w' ⟨rfl, rfl⟩) | (go_at_call 88; refine (i1).mono ?_; rintro e w' ⟨rfl, rfl⟩) | fail)
    obtain ⟨X, hX⟩ : ∃ X, X = w.alloc (.cells #[.int .u8 k, .int .u8 s, .int .u32 q, .int .u32 v] 96) := ⟨_, rfl⟩
    rw [← hX] at HX k0 k1 ⊢
    have p0 : X.cell? ⟨w.heap.size, 0, none⟩ = some (.int .u8 k) := by rw [hX]; exact heap_cell (heap_new _ _ _ rfl) 0
    have p1 : X.cell? ⟨w.heap.size, 1, none⟩ = some (.int .u8 s) := by rw [hX]; exact heap_cell (heap_new _ _ _ rfl) 1
    have p2 : X.cell? ⟨w.heap.size, 2, none⟩ = some (.int .u32 q) := by rw [hX]; exact heap_cell (heap_new _ _ _ rfl) 2
    have p3 : X.cell? ⟨w.heap.size, 3, none⟩ = some (.int .u32 v) := by rw [hX]; exact heap_cell (heap_new _ _ _ rfl) 3
    have hg : Hid (w.grownBy X (some g)) := Lib.hid (by rw [hX]; exact ⟨rfl, rfl, rfl, by simp, fun k hk _ => heap_alloc_old _ _ hk⟩)
    have k2 := HX.out.ck i 2 hi8 (by omega)
    have k3 := HX.out.ck i 3 hi8 (by omega)
    have k4 := HX.out.ck i 4 hi8 (by omega)
    have k5 := HX.out.ck i 5 hi8 (by omega)
    simp only [Kept.cells, List.getElem?_cons_zero, List.getElem?_cons_succ] at k2 k3 k4 k5
    have f0 := HX.out.thaw (2 + i * 6)
    have f1 := HX.out.thaw (2 + i * 6 + 1)
    have f2 := HX.out.thaw (2 + i * 6 + 2)
    have f3 := HX.out.thaw (2 + i * 6 + 3)
    have f4 := HX.out.thaw (2 + i * 6 + 4)
    have f5 := HX.out.thaw (2 + i * 6 + 5)
    have HS : Hid (BoxAt ((((((X.setCell ⟨g, 2 + i * 6, none⟩ (.bool true)).setCell ⟨g, 2 + i * 6 + 1, none⟩ (.int .i64 r)).setCell ⟨g, 2 + i * 6 + 2, none⟩ (.int .u8 k)).setCell ⟨g, 2 + i * 6 + 3, none⟩ (.int .u8 s)).setCell ⟨g, 2 + i * 6 + 4, none⟩ (.int .u32 q)).setCell ⟨g, 2 + i * 6 + 5, none⟩ (.int .u32 v)) g (some ⟨nb, 0, none⟩) fresh (putK ks i ⟨true, r, k, s, q, v⟩) ∧ w.grownBy ((((((X.setCell ⟨g, 2 + i * 6, none⟩ (.bool true)).setCell ⟨g, 2 + i * 6 + 1, none⟩ (.int .i64 r)).setCell ⟨g, 2 + i * 6 + 2, none⟩ (.int .u8 k)).setCell ⟨g, 2 + i * 6 + 3, none⟩ (.int .u8 s)).setCell ⟨g, 2 + i * 6 + 4, none⟩ (.int .u32 q)).setCell ⟨g, 2 + i * 6 + 5, none⟩ (.int .u32 v)) (some g)) := Lib.hid ⟨HX.out.set i hi8 ⟨true, r, k, s, q, v⟩, gtrans hg.out (gtrans (gtrans (gtrans (gtrans (gtrans (gset _ _ _ _) (gset _ _ _ _)) (gset _ _ _ _)) (gset _ _ _ _)) (gset _ _ _ _)) (gset _ _ _ _))⟩
    clear hX t1 i1 HT HIB HRN
    go_region
    go_wp2
    obtain ⟨Y, hY⟩ : ∃ Y, Y = ((((((X.setCell ⟨g, 2 + i * 6, none⟩ (.bool true)).setCell ⟨g, 2 + i * 6 + 1, none⟩ (.int .i64 r)).setCell ⟨g, 2 + i * 6 + 2, none⟩ (.int .u8 k)).setCell ⟨g, 2 + i * 6 + 3, none⟩ (.int .u8 s)).setCell ⟨g, 2 + i * 6 + 4, none⟩ (.int .u32 q)).setCell ⟨g, 2 + i * 6 + 5, none⟩ (.int .u32 v)) := ⟨_, rfl⟩
    rw [← hY] at HS ⊢
    clear hY
    go_ret
    exact ⟨rfl, HS.out.1.kept rfl, gtrans HS.out.2 (gdrew _ _)⟩
set_option maxHeartbeats 2000000 in
theorem put_no (g nb : Nat) (c : Cfg) (hok : CfgOK c) (fresh : Int) (ks : Nat → Kept) (pair k s q v r : Int) (w : World) (h : BoxAt w g (some ⟨nb, 0, none⟩) fresh ks) (hn : NetP w (some ⟨nb, 0, none⟩) c c.pairs) (ht : ¬ (0 ≤ pair ∧ pair < c.ps.length) ∨ takesB (ks pair.toNat) r = false) :
    Calls Tryd.prog 62 #[.pointer (some ⟨g, 0, none⟩), .int .i64 pair, .agg #[.int .u8 k, .int .u8 s, .int .u32 q, .int .u32 v], .int .i64 r] w fun e w' => e = .returned (.int .i64 1) ∧ Below w.heap.size w w' := by
  have hb := (Below.refl w.heap.size w).alloc (Nat.le_refl _) (.cells #[.int .u8 k, .int .u8 s, .int .u32 q, .int .u32 v] 96)
  have hx := h.below hb
  have h8 := hok.p8
  have b0 := hx.c0
  have t1 := there_yes g ⟨nb, 0, none⟩ _ b0
  have f1 := netfirst_any (some ⟨nb, 0, none⟩) c c.pairs pair _ (hn.below hb)
  have i1 := is_any r (w.alloc (.cells #[.int .u8 k, .int .u8 s, .int .u32 q, .int .u32 v] 96))
  have hgl := h.lt
  have HB := Lib.hid hb
  by_cases hv : 0 ≤ pair ∧ pair < c.ps.length
  · have ht' : takesB (ks pair.toNat) r = false := ht.resolve_left (fun hn => hn hv)
    obtain ⟨i, rfl⟩ : ∃ i : Nat, pair = i := ⟨pair.toNat, by omega⟩
    rw [Int.toNat_natCast] at ht'
    have hi : i < c.ps.length := by omega
    have hi8 : i < 8 := by omega
    have hin := first_in hok i hi
    rw [first_at hok i hi] at f1
    obtain ⟨a, ha⟩ : ∃ a, a = c.ps[i] := ⟨_, rfl⟩
    rw [← ha] at f1 hin
    have a0 := hin.1
    have da : decide (a < 0) = false := decide_eq_false (by omega)
    have hi0 : (i : Int) < 8 := by omega
    have k0 : (w.alloc (.cells #[.int .u8 k, .int .u8 s, .int .u32 q, .int .u32 v] 96)).cell? ⟨g, 2 + i * 6, none⟩ = some (.bool (ks i).is) := hx.ck i 0 hi8 (by omega)
    have k1 : (w.alloc (.cells #[.int .u8 k, .int .u8 s, .int .u32 q, .int .u32 v] 96)).cell? ⟨g, 2 + i * 6 + 1, none⟩ = some (.int .i64 (ks i).round) := hx.ck i 1 hi8 (by omega)
    simp only [takesB, Bool.and_eq_false_iff, Bool.or_eq_false_iff] at ht'
    have HT := Lib.hid ht'
    generalize (ks i).is = ib at k0 HT
    generalize (ks i).round = rn at k1 HT
    clear ht ht' hv hi hx h hok hn hb ha hin
    by_cases hr : isB r = true
    · rw [hr] at i1
      have h2 : ib = true ∧ r < rn := by
        have := HT.out
        rw [hr] at this
        simpa using this
      obtain ⟨rfl, h3⟩ := h2
      have dr : decide (r < rn) = true := decide_eq_true h3
      clear hr h3
      go_enter Tryd.func62, Tryd.ntmps62
      go_wp2_with (first | (go_at_call 92; refine (t1).mono ?_; rintro e w' ⟨rfl, rfl⟩) | (go_at_call 38; refine (f1).mono ?_; rintro e w' ⟨rfl, rfl⟩) | (go_at_call 88; refine (i1).mono ?_; rintro e w' ⟨rfl, rfl⟩) | fail)
      go_ret
      exact ⟨rfl, HB.out⟩
    · rw [show isB r = false by simpa using hr] at i1
      clear hr
      go_enter Tryd.func62, Tryd.ntmps62
      go_wp2_with (first | (go_at_call 92; refine (t1).mono ?_; rintro e w' ⟨rfl, rfl⟩) | (go_at_call 38; refine (f1).mono ?_; rintro e w' ⟨rfl, rfl⟩) | (go_at_call 88; refine (i1).mono ?_; rintro e w' ⟨rfl, rfl⟩) | fail)
      go_ret
      exact ⟨rfl, HB.out⟩
  · rw [first_none hok pair hv] at f1
    clear ht hv hx h hok hn hb
    go_enter Tryd.func62, Tryd.ntmps62
    go_wp2_with (first | (go_at_call 92; refine (t1).mono ?_; rintro e w' ⟨rfl, rfl⟩) | (go_at_call 38; refine (f1).mono ?_; rintro e w' ⟨rfl, rfl⟩) | (go_at_call 88; refine (i1).mono ?_; rintro e w' ⟨rfl, rfl⟩) | fail)
    go_ret
    exact ⟨rfl, HB.out⟩
end Go.Proofs.YtibncdkekceokaaDoor
