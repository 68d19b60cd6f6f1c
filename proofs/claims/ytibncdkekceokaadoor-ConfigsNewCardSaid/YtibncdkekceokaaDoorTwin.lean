/- sennitlaw01: twins of lists and configs, and whether they are left as they were. -/
import Derived.Test.YtibncdkekceokaaDoorCoreC
import Derived.Laws.AppendOwnNone
namespace Go.Proofs.YtibncdkekceokaaDoor
open Go.RowKit

/-- A twin of a list: in a block of its own, with two marks behind. -/
def TwinAt (w : World) (lo g : Nat) (n cap : Nat) (xs : List Int) : Prop :=
  lo ≤ g ∧ n + 2 ≤ cap ∧ w.ownsRow lo 3 1 (.slice (some ⟨g, 0, none⟩) (n + 2) cap) (n + 2) ((xs ++ [77, 77]).map eI)
theorem TwinAt.below {w w' : World} {lo g n cap : Nat} {xs : List Int} (h : TwinAt w lo g n cap xs) (hb : Below w.heap.size w w') : TwinAt w' lo g n cap xs := ⟨h.1, h.2.1, own_below h.2.2 hb⟩
set_option maxRecDepth 100000 in
set_option maxHeartbeats 1000000 in
theorem twinNums_any (a : Option Addr) (n cap : Nat) (xs : List Int) (w : World) (hs : SliceOK a n cap) (hr : Reads w eI a n xs) (hn : n ≤ 1000000) :
    Calls Tryd.prog 75 #[.slice a n cap] w fun e w' => ∃ g c2, e = .returned (.slice (some ⟨g, 0, none⟩) n c2) ∧ Hid (TwinAt w' w.heap.size g n c2 xs ∧ Below w.heap.size w w') := by
  obtain ⟨i0, hi, hz0, hz1, hz2⟩ := info_parts Tryd.info1
  have hlen := hr.len
  have key : ∀ (v : Value) (w1 : World), w1.ownsRow w.heap.size 3 1 v n (xs.map eI) → Below w.heap.size w w1 → ∀ {a : Act} {Q : Exit → Act → World → Prop} {rest : List Oper} {ops : Array Oper} {o : Oper} (_ : o.guard = none) (s x : Operand)
      (_ : o.op = .call { callee := .builtin .append, args := #[s, x], argTypes := #[22, 22] }) (_ : a.eval s = v) (_ : a.eval x = .slice (some ⟨w1.heap.size, 0, none⟩) 2 2)
      (_ : ∀ g c2 w2, n + 2 ≤ c2 → Hid (TwinAt w2 w.heap.size g n c2 xs ∧ Below w.heap.size w w2) → Paused (wpList Tryd.prog ops Q rest (a.put o.dst (.slice (some ⟨g, 0, none⟩) (n + 2) c2)) w2)),
      wpList Tryd.prog ops Q (o :: rest) a (w1.alloc (.cells #[.int .i64 77, .int .i64 77] 3)) := by
    intro v w1 hown hb a Q rest ops o hg s x ho hv hx h
    refine wpList_append_own _ hg s x 22 ho w.heap.size 3 i0 (.int .i64 0) 1 8 Tryd.underlying22 hi hz0 hz1 hz2 rfl (by decide) v n (xs.map eI) hv (hown.alloc _) ⟨w1.heap.size, 0, none⟩ 2 2 [eI 77, eI 77] hx rfl (new_cells w1 _ _ _ rfl _ rfl) ?_ ?_ ?_ ?_ ?_
    · intro u hu
      simp only [List.mem_cons, List.not_mem_nil, or_false] at hu
      rcases hu with rfl | rfl <;> rfl
    · unfold maxLen; omega
    · omega
    · simp; have := hb.size; omega
    · intro v' w2 h2 h3 h4
      have h5 : w2.ownsRow w.heap.size 3 1 v' (n + 2) ((xs ++ [77, 77]).map eI) := by rw [List.map_append]; exact h2
      rcases h5.2 with ⟨rfl, he⟩ | ⟨g, cap2, cur, rfl, hb2, _, hcap, _⟩
      · exact absurd he (by simp)
      · have hb3 : Below w.heap.size w w2 := by
          refine (hb.alloc hb.size _).grown h3 (by have := hb.size; simp; omega) (fun k hk => ?_)
          rcases hown.2 with ⟨rfl, _⟩ | ⟨g', cap', cur', rfl, hb', _⟩
          · simp [Value.ownBlock] at hk
          · simp [Value.ownBlock] at hk
            omega
        exact h g cap2 w2 hcap (Lib.hid ⟨⟨hb2, hcap, h5⟩, hb3⟩)
  cases a with
  | none =>
    obtain ⟨rfl, rfl⟩ := hs.nil rfl
    have hx : xs = [] := List.eq_nil_of_length_eq_zero hlen
    subst hx
    clear hr hs hlen
    have HK := Lib.hid key
    clear key
    go_enter Tryd.func75, Tryd.ntmps75
    go_wp2_with (at_builtin; refine wpList_append_own_none rfl _ _ 22 rfl w.heap.size 3 i0 1 Tryd.underlying22 hi _ 0 [] rfl (World.ownsRow_nil _ _ _ _) rfl ?_; refine Paused.go ?_)
    refine Paused.mk ?_
    go_wp2_with (at_builtin; refine HK.out (.slice none 0 0) w (World.ownsRow_nil _ _ _ _) (Below.refl _ _) rfl _ _ rfl rfl rfl ?_)
    intro g c2 w2 hc2 H
    refine Paused.mk ?_
    go_wp2
    go_ret
    exact ⟨g, c2, rfl, H⟩
  | some ad =>
    obtain ⟨b, off, rfl⟩ := hs.addr _ rfl
    have HN := hr.news
    have HK := Lib.hid key
    clear key
    go_enter Tryd.func75, Tryd.ntmps75
    go_wp2_with (at_builtin; refine wpList_append_own _ rfl _ _ 22 rfl w.heap.size 3 i0 (.int .i64 0) 1 8 Tryd.underlying22 hi hz0 hz1 hz2 rfl (by decide) _ 0 [] rfl (World.ownsRow_nil _ _ _ _) ⟨b, off, none⟩ n cap (xs.map eI) rfl ?c0 HN ?c2 ?c3 ?c4 ?c5 ?_)
    case c0 => simp [hr.len]
    case c2 => intro u hu; obtain ⟨x, _, rfl⟩ := List.mem_map.1 hu; rfl
    case c3 => unfold maxLen; omega
    case c4 => omega
    case c5 => omega
    intro v' w1 hown' hgrow hnil
    have R : w1.ownsRow w.heap.size 3 1 v' n (xs.map eI) := by simpa using hown'
    have HR := Lib.hid (⟨R, (Below.refl w.heap.size w).grown hgrow (Nat.le_refl _) (fun k hk => by simp [Value.ownBlock] at hk)⟩ : _ ∧ Below w.heap.size w w1)
    clear hown' hgrow hnil R HN hr
    go_wp2_with (at_builtin; refine HK.out v' w1 HR.out.1 HR.out.2 rfl _ _ rfl rfl rfl ?_)
    intro g c2 w2 hc2 H
    refine Paused.mk ?_
    go_wp2
    go_ret
    exact ⟨g, c2, rfl, H⟩

/-- A twin of stations: in a block of its own, with a mark behind. -/
def TwinSt (w : World) (lo g : Nat) (n cap : Nat) (xs : List (Int × Int × Int)) : Prop :=
  lo ≤ g ∧ n + 1 ≤ cap ∧ w.ownsRow lo 53 3 (.slice (some ⟨g, 0, none⟩) (n + 1) cap) (n + 1) ((xs ++ [(77, 0, 0)]).flatMap eSt)
theorem TwinSt.below {w w' : World} {lo g n cap : Nat} {xs : List (Int × Int × Int)} (h : TwinSt w lo g n cap xs) (hb : Below w.heap.size w w') : TwinSt w' lo g n cap xs := ⟨h.1, h.2.1, own_below h.2.2 hb⟩
theorem TwinAt.lower {w : World} {lo lo' g n cap : Nat} {xs : List Int} (h : TwinAt w lo g n cap xs) (hl : lo' ≤ lo) : TwinAt w lo' g n cap xs := by
  refine ⟨Nat.le_trans hl h.1, h.2.1, h.2.2.1, ?_⟩
  rcases h.2.2.2 with ⟨hv, _⟩ | ⟨g', cap', cur, hv, hb, rest⟩
  · cases hv
  · exact .inr ⟨g', cap', cur, hv, Nat.le_trans hl hb, rest⟩
/-- A cell that is written below a twin's block leaves it. -/
theorem twin_set {w W : World} {lo g n cap : Nat} {xs : List Int} (h : TwinAt w lo g n cap xs) {b i : Nat} {v : Value} (hb : b < lo) (hW : W = w.setCell ⟨b, i, none⟩ v) : TwinAt W lo g n cap xs := by
  subst hW
  refine ⟨h.1, h.2.1, h.2.2.1, ?_⟩
  rcases h.2.2.2 with ⟨hv, _⟩ | ⟨g', cap', cur, hv, hg, hr, rest⟩
  · cases hv
  · exact .inr ⟨g', cap', cur, hv, hg, (Below.heap_setCell _ _ _ _ (by simp; omega)).trans hr, rest⟩
theorem TwinAt.kept {w W : World} {lo g n cap : Nat} {xs : List Int} (h : TwinAt w lo g n cap xs) (hk : ∀ k, lo ≤ k → W.heap[k]? = w.heap[k]?) : TwinAt W lo g n cap xs := by
  refine ⟨h.1, h.2.1, h.2.2.1, ?_⟩
  rcases h.2.2.2 with ⟨hv, _⟩ | ⟨g', cap', cur, hv, hg, hr, rest⟩
  · cases hv
  · exact .inr ⟨g', cap', cur, hv, hg, (hk _ hg).trans hr, rest⟩
theorem TwinSt.kept {w W : World} {lo g n cap : Nat} {xs : List (Int × Int × Int)} (h : TwinSt w lo g n cap xs) (hk : ∀ k, lo ≤ k → W.heap[k]? = w.heap[k]?) : TwinSt W lo g n cap xs := by
  refine ⟨h.1, h.2.1, h.2.2.1, ?_⟩
  rcases h.2.2.2 with ⟨hv, _⟩ | ⟨g', cap', cur, hv, hg, hr, rest⟩
  · cases hv
  · exact .inr ⟨g', cap', cur, hv, hg, (hk _ hg).trans hr, rest⟩
theorem TwinSt.lower {w : World} {lo lo' g n cap : Nat} {xs : List (Int × Int × Int)} (h : TwinSt w lo g n cap xs) (hl : lo' ≤ lo) : TwinSt w lo' g n cap xs := by
  refine ⟨Nat.le_trans hl h.1, h.2.1, h.2.2.1, ?_⟩
  rcases h.2.2.2 with ⟨hv, _⟩ | ⟨g', cap', cur, hv, hb, rest⟩
  · cases hv
  · exact .inr ⟨g', cap', cur, hv, Nat.le_trans hl hb, rest⟩
theorem TwinAt.keptB {w W : World} {lo g n cap : Nat} {xs : List Int} (h : TwinAt w lo g n cap xs) (hk : ∀ k, k < w.heap.size → W.heap[k]? = w.heap[k]?) : TwinAt W lo g n cap xs := by
  refine ⟨h.1, h.2.1, h.2.2.1, ?_⟩
  rcases h.2.2.2 with ⟨hv, _⟩ | ⟨g', cap', cur, hv, hg, hr, rest⟩
  · cases hv
  · exact .inr ⟨g', cap', cur, hv, hg, (hk _ (Array.getElem?_eq_some_iff.1 hr).1).trans hr, rest⟩
theorem setRow_size (w : World) (g : Nat) (cs : Array Value) : (w.setRow g cs).heap.size = w.heap.size := by
  unfold World.setRow
  simp
theorem below_setRow {B : Nat} {w W : World} (h : Below B w W) {g : Nat} (hg : B ≤ g) (cs : Array Value) : Below B w (W.setRow g cs) :=
  ⟨h.os, h.tape, h.output, by rw [setRow_size]; exact h.size, fun k hk => (setRow_other W g k cs (by omega)).trans (h.block k hk)⟩
theorem twinSt_append {w w1 : World} {lo n : Nat} {v : Value} {xs : List (Int × Int × Int)} (hown : w1.ownsRow lo 53 3 v n (xs.flatMap eSt)) (hlo : w.heap.size ≤ lo) (hlo1 : lo ≤ w1.heap.size) (hb : Below w.heap.size w w1) (hn : n ≤ 1000000) {a : Act} {Q : Exit → Act → World → Prop} {rest : List Oper} {ops : Array Oper} {o : Oper} (hg : o.guard = none) (s x : Operand)
      (ho : o.op = .call { callee := .builtin .append, args := #[s, x], argTypes := #[23, 23] }) (hv : a.eval s = v) (hx : a.eval x = .slice (some ⟨w1.heap.size, 0, none⟩) 1 1)
      (h : ∀ g c2 w2, Hid (TwinSt w2 lo g n c2 xs ∧ Below w.heap.size w w2 ∧ ∀ k, k < lo → w2.heap[k]? = w1.heap[k]?) → n + 1 ≤ c2 → Paused (wpList Tryd.prog ops Q rest (a.put o.dst (.slice (some ⟨g, 0, none⟩) (n + 1) c2)) w2)) :
      wpList Tryd.prog ops Q (o :: rest) a (w1.alloc (.cells #[.int .i64 77, .int .u32 0, .int .i64 0] 53)) := by
  obtain ⟨i0, hi, hz0, hz1, hz2⟩ := info_parts Tryd.infoSt
  refine wpList_append_own _ hg s x 23 ho lo 53 i0 (.agg #[.int .i64 0, .int .u32 0, .int .i64 0]) 3 24 Tryd.underlying23 hi hz0 hz1 hz2 rfl (by decide) v n (xs.flatMap eSt) hv (hown.alloc _) ⟨w1.heap.size, 0, none⟩ 1 1 [.int .i64 77, .int .u32 0, .int .i64 0] hx rfl (new_cells w1 _ _ _ rfl _ rfl) ?_ ?_ ?_ ?_ ?_
  · intro u hu
    simp only [List.mem_cons, List.not_mem_nil, or_false] at hu
    rcases hu with rfl | rfl | rfl <;> rfl
  · unfold maxLen; omega
  · omega
  · simp; omega
  · intro v' w2 h2 h3 h4
    have h5 : w2.ownsRow lo 53 3 v' (n + 1) ((xs ++ [(77, 0, 0)]).flatMap eSt) := by
      rw [List.flatMap_append]; exact h2
    rcases h5.2 with ⟨rfl, he⟩ | ⟨g, cap2, cur, rfl, hb2, _, hcap, _⟩
    · exact absurd he (by simp)
    · have hvb : ∀ k, v.ownBlock = some k → lo ≤ k := fun k hk => by
        rcases hown.2 with ⟨rfl, _⟩ | ⟨g', cap', cur', rfl, hb', _⟩
        · simp [Value.ownBlock] at hk
        · simp [Value.ownBlock] at hk
          omega
      have hb3 : Below w.heap.size w w2 := (hb.alloc hb.size _).grown h3 (by have := hb.size; simp; omega) (fun k hk => by have := hvb k hk; omega)
      refine h g cap2 w2 (Lib.hid ⟨⟨hb2, hcap, h5⟩, hb3, fun k hk => ?_⟩) hcap
      have h6 : Below lo w1 w2 := ((Below.refl lo w1).alloc hlo1 _).grown h3 (by simp; omega) hvb
      exact h6.block k hk
set_option maxRecDepth 100000 in
set_option maxHeartbeats 4000000 in
theorem twinConfig_any (nodes long miss good fresh : Int) (pa sa ba ta : Option Addr) (pn pc sn sc bn bc tn tc : Nat) (ps ss bs : List Int) (ts : List (Int × Int × Int)) (w : World) (hC : CfgIn w nodes long miss good fresh pa sa ba ta pn pc sn sc bn bc tn tc ps ss bs ts) (lp : pn ≤ 1000000) (ls : sn ≤ 1000000) (lb : bn ≤ 1000000) (lt : tn ≤ 1000000) :
    Calls Tryd.prog 32 #[.agg #[.int .i64 nodes, .slice pa pn pc, .slice sa sn sc, .int .i64 long, .slice ba bn bc, .slice ta tn tc, .int .i64 miss, .int .i64 good, .int .i64 fresh]] w fun e w' => ∃ g1 c1 g2 c2 g3 c3 g4 c4, e = .returned (.agg #[.int .i64 nodes, .slice (some ⟨g1, 0, none⟩) pn c1, .slice (some ⟨g2, 0, none⟩) sn c2, .int .i64 long, .slice (some ⟨g3, 0, none⟩) bn c3, .slice (some ⟨g4, 0, none⟩) tn c4, .int .i64 miss, .int .i64 good, .int .i64 fresh]) ∧
      Hid (TwinAt w' w.heap.size g1 pn c1 ps ∧ TwinAt w' w.heap.size g2 sn c2 ss ∧ TwinAt w' w.heap.size g3 bn c3 bs ∧ TwinSt w' w.heap.size g4 tn c4 ts ∧ Below w.heap.size w w') := by
  have HC := Lib.hid hC
  have hb0 := ((Below.refl w.heap.size w).alloc (Nat.le_refl _) (.cells #[.int .i64 nodes, .slice pa pn pc, .slice sa sn sc, .int .i64 long, .slice ba bn bc, .slice ta tn tc, .int .i64 miss, .int .i64 good, .int .i64 fresh] 25)).alloc (by simp) (.cells #[.int .i64 0, .slice none 0 0, .slice none 0 0, .int .i64 0, .slice none 0 0, .slice none 0 0, .int .i64 0, .int .i64 0, .int .i64 0] 25)
  have hg0 : ((w.alloc (.cells #[.int .i64 nodes, .slice pa pn pc, .slice sa sn sc, .int .i64 long, .slice ba bn bc, .slice ta tn tc, .int .i64 miss, .int .i64 good, .int .i64 fresh] 25)).alloc (.cells #[.int .i64 0, .slice none 0 0, .slice none 0 0, .int .i64 0, .slice none 0 0, .slice none 0 0, .int .i64 0, .int .i64 0, .int .i64 0] 25)).heap[w.heap.size]? = some (.cells #[.int .i64 nodes, .slice pa pn pc, .slice sa sn sc, .int .i64 long, .slice ba bn bc, .slice ta tn tc, .int .i64 miss, .int .i64 good, .int .i64 fresh] 25 (0, 0)) := heap_alloc2_old w _ _
  have hs0 : ((w.alloc (.cells #[.int .i64 nodes, .slice pa pn pc, .slice sa sn sc, .int .i64 long, .slice ba bn bc, .slice ta tn tc, .int .i64 miss, .int .i64 good, .int .i64 fresh] 25)).alloc (.cells #[.int .i64 0, .slice none 0 0, .slice none 0 0, .int .i64 0, .slice none 0 0, .slice none 0 0, .int .i64 0, .int .i64 0, .int .i64 0] 25)).heap.size = w.heap.size + 2 := by simp
  have HB0 := Lib.hid hb0
  have HG0 := Lib.hid hg0
  have HS0 := Lib.hid hs0
  have hz0 : ((w.alloc (.cells #[.int .i64 nodes, .slice pa pn pc, .slice sa sn sc, .int .i64 long, .slice ba bn bc, .slice ta tn tc, .int .i64 miss, .int .i64 good, .int .i64 fresh] 25)).alloc (.cells #[.int .i64 0, .slice none 0 0, .slice none 0 0, .int .i64 0, .slice none 0 0, .slice none 0 0, .int .i64 0, .int .i64 0, .int .i64 0] 25)).heap[w.heap.size + 1]? = some (.cells #[.int .i64 0, .slice none 0 0, .slice none 0 0, .int .i64 0, .slice none 0 0, .slice none 0 0, .int .i64 0, .int .i64 0, .int .i64 0] 25 (0, 0)) := heap_new _ _ _ (by simp)
  have HZ0 := Lib.hid hz0
  clear hC hb0 hg0 hs0 hz0
  go_enter Tryd.func32, Tryd.ntmps32
  go_wp2_with fail
  generalize hW0 : (w.alloc (.cells #[.int .i64 nodes, .slice pa pn pc, .slice sa sn sc, .int .i64 long, .slice ba bn bc, .slice ta tn tc, .int .i64 miss, .int .i64 good, .int .i64 fresh] 25)).alloc (.cells #[.int .i64 0, .slice none 0 0, .slice none 0 0, .int .i64 0, .slice none 0 0, .slice none 0 0, .int .i64 0, .int .i64 0, .int .i64 0] 25) = W0 at HB0 HG0 HS0 HZ0 ⊢
  clear hW0
  refine (twinNums_any _ _ _ ps _ HC.out.op (HC.out.rp.below HB0.out) lp).mono ?_
  rintro e w1 ⟨g1, c1, rfl, H1⟩
  have r1 : w1.heap[w.heap.size]? = some (.cells #[.int .i64 nodes, .slice pa pn pc, .slice sa sn sc, .int .i64 long, .slice ba bn bc, .slice ta tn tc, .int .i64 miss, .int .i64 good, .int .i64 fresh] 25 (0, 0)) := (H1.out.2.block _ (by have := HS0.out; omega)).trans HG0.out
  have s1 := H1.out.2.size
  have a1 := heap_cell r1 1
  have b1 := heap_cell r1 2
  simp only [List.getElem?_toArray, List.getElem?_cons_zero, List.getElem?_cons_succ] at a1 b1
  have f1 := heap_thawed r1 1
  have R1 := Lib.hid (heap_set_same r1 1 (.slice (some ⟨g1, 0, none⟩) pn c1))
  have BB1 := Lib.hid (show Below w.heap.size w (w1.setCell ⟨w.heap.size, 1, none⟩ (.slice (some ⟨g1, 0, none⟩) pn c1)) from (HB0.out.trans (H1.out.2.mono (by have := HS0.out; omega))).setCell (Nat.le_refl _) _)
  have SS1 := Lib.hid (show w.heap.size + 2 ≤ (w1.setCell ⟨w.heap.size, 1, none⟩ (.slice (some ⟨g1, 0, none⟩) pn c1)).heap.size from by have := HS0.out; simp [World.setCell]; omega)
  go_wp2_with fail
  obtain ⟨W1, hW1⟩ : ∃ W1, W1 = w1.setCell ⟨w.heap.size, 1, none⟩ (.slice (some ⟨g1, 0, none⟩) pn c1) := ⟨_, rfl⟩
  rw [← hW1] at R1 BB1 SS1 ⊢
  have HG1 : Hid (W1.heap[w.heap.size]? = some (.cells #[.int .i64 nodes, .slice (some ⟨g1, 0, none⟩) pn c1, .slice sa sn sc, .int .i64 long, .slice ba bn bc, .slice ta tn tc, .int .i64 miss, .int .i64 good, .int .i64 fresh] 25 (0, 0))) := Lib.hid R1.out
  have HB1 := BB1
  have HS1 := SS1
  have HZ1 : Hid (W1.heap[w.heap.size + 1]? = some (.cells #[.int .i64 0, .slice none 0 0, .slice none 0 0, .int .i64 0, .slice none 0 0, .slice none 0 0, .int .i64 0, .int .i64 0, .int .i64 0] 25 (0, 0))) := Lib.hid (by rw [hW1, Below.heap_setCell _ _ _ _ (by simp)]; exact (H1.out.2.block _ (by have := HS0.out; omega)).trans HZ0.out)
  have T1 := Lib.hid (show TwinAt W1 W0.heap.size g1 pn c1 ps from twin_set H1.out.1 (by have := HS0.out; omega) hW1)
  clear hW1 r1 s1 a1 b1 f1 R1 BB1 SS1
  refine (twinNums_any _ _ _ ss _ HC.out.os (HC.out.rs.below HB1.out) ls).mono ?_
  rintro e w2 ⟨g2, c2, rfl, H2⟩
  have r2 : w2.heap[w.heap.size]? = some (.cells #[.int .i64 nodes, .slice (some ⟨g1, 0, none⟩) pn c1, .slice sa sn sc, .int .i64 long, .slice ba bn bc, .slice ta tn tc, .int .i64 miss, .int .i64 good, .int .i64 fresh] 25 (0, 0)) := (H2.out.2.block _ (by have := HS1.out; omega)).trans HG1.out
  have s2 := H2.out.2.size
  have a2 := heap_cell r2 2
  have b2 := heap_cell r2 4
  simp only [List.getElem?_toArray, List.getElem?_cons_zero, List.getElem?_cons_succ] at a2 b2
  have f2 := heap_thawed r2 2
  have R2 := Lib.hid (heap_set_same r2 2 (.slice (some ⟨g2, 0, none⟩) sn c2))
  have BB2 := Lib.hid (show Below w.heap.size w (w2.setCell ⟨w.heap.size, 2, none⟩ (.slice (some ⟨g2, 0, none⟩) sn c2)) from (HB1.out.trans (H2.out.2.mono (by have := HS1.out; omega))).setCell (Nat.le_refl _) _)
  have SS2 := Lib.hid (show w.heap.size + 2 ≤ (w2.setCell ⟨w.heap.size, 2, none⟩ (.slice (some ⟨g2, 0, none⟩) sn c2)).heap.size from by have := HS1.out; simp [World.setCell]; omega)
  go_wp2_with fail
  obtain ⟨W2, hW2⟩ : ∃ W2, W2 = w2.setCell ⟨w.heap.size, 2, none⟩ (.slice (some ⟨g2, 0, none⟩) sn c2) := ⟨_, rfl⟩
  rw [← hW2] at R2 BB2 SS2 ⊢
  have HG2 : Hid (W2.heap[w.heap.size]? = some (.cells #[.int .i64 nodes, .slice (some ⟨g1, 0, none⟩) pn c1, .slice (some ⟨g2, 0, none⟩) sn c2, .int .i64 long, .slice ba bn bc, .slice ta tn tc, .int .i64 miss, .int .i64 good, .int .i64 fresh] 25 (0, 0))) := Lib.hid R2.out
  have HB2 := BB2
  have HS2 := SS2
  have HZ2 : Hid (W2.heap[w.heap.size + 1]? = some (.cells #[.int .i64 0, .slice none 0 0, .slice none 0 0, .int .i64 0, .slice none 0 0, .slice none 0 0, .int .i64 0, .int .i64 0, .int .i64 0] 25 (0, 0))) := Lib.hid (by rw [hW2, Below.heap_setCell _ _ _ _ (by simp)]; exact (H2.out.2.block _ (by have := HS1.out; omega)).trans HZ1.out)
  have T2 := Lib.hid (show TwinAt W2 W1.heap.size g2 sn c2 ss from twin_set H2.out.1 (by have := HS1.out; omega) hW2)
  have T1' := Lib.hid (show TwinAt W2 W0.heap.size g1 pn c1 ps from twin_set (T1.out.below H2.out.2) (by have := HS0.out; omega) hW2)
  clear hW2 r2 s2 a2 b2 f2 R2 BB2 SS2 T1
  refine (twinNums_any _ _ _ bs _ HC.out.ob (HC.out.rb.below HB2.out) lb).mono ?_
  rintro e w3 ⟨g3, c3, rfl, H3⟩
  have r3 : w3.heap[w.heap.size]? = some (.cells #[.int .i64 nodes, .slice (some ⟨g1, 0, none⟩) pn c1, .slice (some ⟨g2, 0, none⟩) sn c2, .int .i64 long, .slice ba bn bc, .slice ta tn tc, .int .i64 miss, .int .i64 good, .int .i64 fresh] 25 (0, 0)) := (H3.out.2.block _ (by have := HS2.out; omega)).trans HG2.out
  have s3 := H3.out.2.size
  have a3 := heap_cell r3 4
  have b3 := heap_cell r3 5
  simp only [List.getElem?_toArray, List.getElem?_cons_zero, List.getElem?_cons_succ] at a3 b3
  have f3 := heap_thawed r3 4
  have R3 := Lib.hid (heap_set_same r3 4 (.slice (some ⟨g3, 0, none⟩) bn c3))
  have BB3 := Lib.hid (show Below w.heap.size w (w3.setCell ⟨w.heap.size, 4, none⟩ (.slice (some ⟨g3, 0, none⟩) bn c3)) from (HB2.out.trans (H3.out.2.mono (by have := HS2.out; omega))).setCell (Nat.le_refl _) _)
  have SS3 := Lib.hid (show w.heap.size + 2 ≤ (w3.setCell ⟨w.heap.size, 4, none⟩ (.slice (some ⟨g3, 0, none⟩) bn c3)).heap.size from by have := HS2.out; simp [World.setCell]; omega)
  obtain ⟨i0, hi, hz0, hz1, hz2⟩ := info_parts Tryd.infoSt
  cases hta : ta with
  | none =>
    obtain ⟨htn, htc⟩ := HC.out.ot.nil hta
    rw [hta, htn, htc] at b3
    have HTA := Lib.hid (⟨hta, htn, htc⟩ : _ ∧ _ ∧ _)
    clear hta htn htc
    go_wp2_with (at_builtin; refine wpList_append_own_none rfl _ _ 23 rfl (w3.setCell ⟨w.heap.size, 4, none⟩ (.slice (some ⟨g3, 0, none⟩) bn c3)).heap.size 53 i0 3 Tryd.underlying23 hi _ 0 [] rfl (World.ownsRow_nil _ _ _ _) rfl ?_; refine Paused.go ?_)
    obtain ⟨W3, hW3⟩ : ∃ W3, W3 = w3.setCell ⟨w.heap.size, 4, none⟩ (.slice (some ⟨g3, 0, none⟩) bn c3) := ⟨_, rfl⟩
    rw [← hW3] at R3 BB3 SS3 ⊢
    have HG3 := Lib.hid R3.out
    have HB3 := BB3
    have HS3 := SS3
    have HZ3 : Hid (W3.heap[w.heap.size + 1]? = some (.cells #[.int .i64 0, .slice none 0 0, .slice none 0 0, .int .i64 0, .slice none 0 0, .slice none 0 0, .int .i64 0, .int .i64 0, .int .i64 0] 25 (0, 0))) := Lib.hid (by rw [hW3, Below.heap_setCell _ _ _ _ (by simp)]; exact (H3.out.2.block _ (by have := HS2.out; omega)).trans HZ2.out)
    have T3 := Lib.hid (show TwinAt W3 W2.heap.size g3 bn c3 bs from twin_set H3.out.1 (by have := HS2.out; omega) hW3)
    have T2' := Lib.hid (show TwinAt W3 W1.heap.size g2 sn c2 ss from twin_set (T2.out.below H3.out.2) (by have := HS1.out; omega) hW3)
    have T1'' := Lib.hid (show TwinAt W3 W0.heap.size g1 pn c1 ps from twin_set (T1'.out.below H3.out.2) (by have := HS0.out; omega) hW3)
    clear hW3 r3 s3 a3 b3 f3 R3 BB3 SS3 T2 T1'
    refine Paused.mk ?_
    go_wp2_with (at_builtin; refine twinSt_append (w := w) (lo := W3.heap.size) (v := .slice none 0 0) (n := 0) (xs := []) (World.ownsRow_nil _ _ _ _) ?d1 ?d2 HB3.out ?d3 rfl _ _ rfl rfl rfl ?_)
    case d1 => have := HB3.out.size; omega
    case d2 => exact Nat.le_refl _
    case d3 => omega
    intro g4 c4 w5 H5 hc4
    have r5 : w5.heap[w.heap.size]? = some (.cells #[.int .i64 nodes, .slice (some ⟨g1, 0, none⟩) pn c1, .slice (some ⟨g2, 0, none⟩) sn c2, .int .i64 long, .slice (some ⟨g3, 0, none⟩) bn c3, .slice ta tn tc, .int .i64 miss, .int .i64 good, .int .i64 fresh] 25 (0, 0)) := (H5.out.2.2 _ (by have := HS3.out; omega)).trans HG3.out
    have k0 : w5.cell? ⟨w.heap.size, 0, none⟩ = some (.int .i64 nodes) := heap_cell r5 0
    have k1 : w5.cell? ⟨w.heap.size, 1, none⟩ = some (.slice (some ⟨g1, 0, none⟩) pn c1) := heap_cell r5 1
    have k2 : w5.cell? ⟨w.heap.size, 2, none⟩ = some (.slice (some ⟨g2, 0, none⟩) sn c2) := heap_cell r5 2
    have k3 : w5.cell? ⟨w.heap.size, 3, none⟩ = some (.int .i64 long) := heap_cell r5 3
    have k4 : w5.cell? ⟨w.heap.size, 4, none⟩ = some (.slice (some ⟨g3, 0, none⟩) bn c3) := heap_cell r5 4
    have k5 : w5.cell? ⟨w.heap.size, 5, none⟩ = some (.slice ta tn tc) := heap_cell r5 5
    have k6 : w5.cell? ⟨w.heap.size, 6, none⟩ = some (.int .i64 miss) := heap_cell r5 6
    have k7 : w5.cell? ⟨w.heap.size, 7, none⟩ = some (.int .i64 good) := heap_cell r5 7
    have k8 : w5.cell? ⟨w.heap.size, 8, none⟩ = some (.int .i64 fresh) := heap_cell r5 8
    rw [HTA.out.1, HTA.out.2.1, HTA.out.2.2] at k5
    have f5 := heap_thawed r5 5
    have z5 : (w5.setCell ⟨w.heap.size, 5, none⟩ (.slice (some ⟨g4, 0, none⟩) 0 c4)).heap[w.heap.size + 1]? = some (.cells #[.int .i64 0, .slice none 0 0, .slice none 0 0, .int .i64 0, .slice none 0 0, .slice none 0 0, .int .i64 0, .int .i64 0, .int .i64 0] 25 (0, 0)) := (Below.heap_setCell _ _ _ _ (by simp)).trans ((H5.out.2.2 _ (by have := HS3.out; omega)).trans HZ3.out)
    have Z5 := Lib.hid z5
    clear z5
    refine Paused.mk ?_
    go_wp2_with (first | (refine wpList_store_row rfl 25 _ _ rfl (w.heap.size + 1) #[.int .i64 nodes, .slice (some ⟨g1, 0, none⟩) pn c1, .slice (some ⟨g2, 0, none⟩) sn c2, .int .i64 long, .slice (some ⟨g3, 0, none⟩) bn c3, .slice (some ⟨g4, 0, none⟩) 0 c4, .int .i64 miss, .int .i64 good, .int .i64 fresh] rfl rfl 25 #[.int .i64 0, .slice none 0 0, .slice none 0 0, .int .i64 0, .slice none 0 0, .slice none 0 0, .int .i64 0, .int .i64 0, .int .i64 0] Z5.out ?q1 ?q2 ?q3 ?_) | fail)
    case q1 => kernel_rfl
    case q2 => rfl
    case q3 => simp [Value.oneCell']
    obtain ⟨W, hW⟩ : ∃ W, W = (w5.setCell ⟨w.heap.size, 5, none⟩ (.slice (some ⟨g4, 0, none⟩) 0 c4)).setRow (w.heap.size + 1) #[.int .i64 nodes, .slice (some ⟨g1, 0, none⟩) pn c1, .slice (some ⟨g2, 0, none⟩) sn c2, .int .i64 long, .slice (some ⟨g3, 0, none⟩) bn c3, .slice (some ⟨g4, 0, none⟩) 0 c4, .int .i64 miss, .int .i64 good, .int .i64 fresh] := ⟨_, rfl⟩
    rw [← hW]
    have hrow : W.heap[w.heap.size + 1]? = some (.cells #[.int .i64 nodes, .slice (some ⟨g1, 0, none⟩) pn c1, .slice (some ⟨g2, 0, none⟩) sn c2, .int .i64 long, .slice (some ⟨g3, 0, none⟩) bn c3, .slice (some ⟨g4, 0, none⟩) 0 c4, .int .i64 miss, .int .i64 good, .int .i64 fresh] 25 (0, 0)) := by rw [hW]; exact setRow_heap _ _ _ _ _ _ Z5.out
    have hkW : ∀ k, w.heap.size + 2 ≤ k → W.heap[k]? = w5.heap[k]? := fun k hk => by rw [hW, setRow_other _ _ _ _ (by omega), Below.heap_setCell _ _ _ _ (by simp; omega)]
    have hbW : Below w.heap.size w W := by rw [hW]; exact below_setRow (H5.out.2.1.setCell (Nat.le_refl _) _) (by omega) _
    have q0 : W.cell? ⟨w.heap.size + 1, 0, none⟩ = some (.int .i64 nodes) := heap_cell hrow 0
    have q1 : W.cell? ⟨w.heap.size + 1, 1, none⟩ = some (.slice (some ⟨g1, 0, none⟩) pn c1) := heap_cell hrow 1
    have q2 : W.cell? ⟨w.heap.size + 1, 2, none⟩ = some (.slice (some ⟨g2, 0, none⟩) sn c2) := heap_cell hrow 2
    have q3 : W.cell? ⟨w.heap.size + 1, 3, none⟩ = some (.int .i64 long) := heap_cell hrow 3
    have q4 : W.cell? ⟨w.heap.size + 1, 4, none⟩ = some (.slice (some ⟨g3, 0, none⟩) bn c3) := heap_cell hrow 4
    have q5 : W.cell? ⟨w.heap.size + 1, 5, none⟩ = some (.slice (some ⟨g4, 0, none⟩) 0 c4) := heap_cell hrow 5
    have q6 : W.cell? ⟨w.heap.size + 1, 6, none⟩ = some (.int .i64 miss) := heap_cell hrow 6
    have q7 : W.cell? ⟨w.heap.size + 1, 7, none⟩ = some (.int .i64 good) := heap_cell hrow 7
    have q8 : W.cell? ⟨w.heap.size + 1, 8, none⟩ = some (.int .i64 fresh) := heap_cell hrow 8
    refine bodyPost_ret (v := .agg #[.int .i64 nodes, .slice (some ⟨g1, 0, none⟩) pn c1, .slice (some ⟨g2, 0, none⟩) sn c2, .int .i64 long, .slice (some ⟨g3, 0, none⟩) bn c3, .slice (some ⟨g4, 0, none⟩) 0 c4, .int .i64 miss, .int .i64 good, .int .i64 fresh]) (by simp [results, Tryd.results32, go_sem, q0, q1, q2, q3, q4, q5, q6, q7, q8]) rfl ?_
    have KK := H5.out.2.2
    have hz := HS0.out
    have hz1 := HS1.out
    have hz2 := HS2.out
    have hz3 := HS3.out
    have U1 := ((T1''.out.keptB KK).kept (fun k hk => hkW k (by omega))).lower (show w.heap.size ≤ W0.heap.size by omega)
    have U2 := ((T2'.out.keptB KK).kept (fun k hk => hkW k (by omega))).lower (show w.heap.size ≤ W1.heap.size by omega)
    have U3 := ((T3.out.keptB KK).kept (fun k hk => hkW k (by omega))).lower (show w.heap.size ≤ W2.heap.size by omega)
    have U4 := (H5.out.1.kept (fun k hk => hkW k (by omega))).lower (show w.heap.size ≤ W3.heap.size by omega)
    have e4 : ts = [] := List.eq_nil_of_length_eq_zero (by rw [HC.out.rt.len, HTA.out.2.1])
    refine ⟨g1, c1, g2, c2, g3, c3, g4, c4, ?_, Lib.hid ⟨U1, U2, U3, ?_, hbW⟩⟩
    · rw [HTA.out.2.1]
    · rw [HTA.out.2.1, e4]; exact U4
  | some ad =>
    obtain ⟨sb, soff, had⟩ := HC.out.ot.addr _ hta
    subst had
    rw [hta] at b3
    have HTA := Lib.hid hta
    have hN0 := (show ReadsSt (w3.setCell ⟨w.heap.size, 4, none⟩ (.slice (some ⟨g3, 0, none⟩) bn c3)) (some ⟨sb, soff, none⟩) tn ts from hta ▸ (HC.out.rt.below BB3.out)).news
    have HN := Lib.hid hN0
    have hlen := HC.out.rt.len
    clear hta hN0
    go_wp2_with (at_builtin; refine wpList_append_own _ rfl _ _ 23 rfl (w3.setCell ⟨w.heap.size, 4, none⟩ (.slice (some ⟨g3, 0, none⟩) bn c3)).heap.size 53 i0 (.agg #[.int .i64 0, .int .u32 0, .int .i64 0]) 3 24 Tryd.underlying23 hi hz0 hz1 hz2 rfl (by decide) _ 0 [] rfl (World.ownsRow_nil _ _ _ _) ⟨sb, soff, none⟩ tn tc (ts.flatMap eSt) rfl ?e0 HN.out ?e2 ?e3 ?e4 ?e5 ?_)
    case e0 => rw [flat3_length]; omega
    case e2 =>
      intro u hu
      obtain ⟨x, _, hx⟩ := List.mem_flatMap.1 hu
      simp only [eSt, List.mem_cons, List.not_mem_nil, or_false] at hx
      rcases hx with rfl | rfl | rfl <;> rfl
    case e3 => unfold maxLen; omega
    case e4 => omega
    case e5 => exact Nat.le_refl _
    intro v' w4 hown' hgrow hnil
    obtain ⟨W3, hW3⟩ : ∃ W3, W3 = w3.setCell ⟨w.heap.size, 4, none⟩ (.slice (some ⟨g3, 0, none⟩) bn c3) := ⟨_, rfl⟩
    have hz3 : W3.heap.size = w3.heap.size := by rw [hW3]; simp [World.setCell]
    rw [← hW3] at R3 BB3 SS3 hgrow
    rw [← hz3] at hown'
    clear hz3
    have HG3 := Lib.hid R3.out
    have HB3 := BB3
    have HS3 := SS3
    have HZ3 : Hid (W3.heap[w.heap.size + 1]? = some (.cells #[.int .i64 0, .slice none 0 0, .slice none 0 0, .int .i64 0, .slice none 0 0, .slice none 0 0, .int .i64 0, .int .i64 0, .int .i64 0] 25 (0, 0))) := Lib.hid (by rw [hW3, Below.heap_setCell _ _ _ _ (by simp)]; exact (H3.out.2.block _ (by have := HS2.out; omega)).trans HZ2.out)
    have T3 := Lib.hid (show TwinAt W3 W2.heap.size g3 bn c3 bs from twin_set H3.out.1 (by have := HS2.out; omega) hW3)
    have T2' := Lib.hid (show TwinAt W3 W1.heap.size g2 sn c2 ss from twin_set (T2.out.below H3.out.2) (by have := HS1.out; omega) hW3)
    have T1'' := Lib.hid (show TwinAt W3 W0.heap.size g1 pn c1 ps from twin_set (T1'.out.below H3.out.2) (by have := HS0.out; omega) hW3)
    clear hW3 r3 s3 a3 b3 f3 R3 BB3 SS3 T2 T1'
    have R4 : w4.ownsRow W3.heap.size 53 3 v' tn (ts.flatMap eSt) := by simpa using hown'
    have hb4 : Below W3.heap.size W3 w4 := (Below.refl W3.heap.size W3).grown hgrow (Nat.le_refl _) (fun k hk => by simp [Value.ownBlock] at hk)
    have HR4 := Lib.hid (⟨R4, hb4⟩ : _ ∧ Below W3.heap.size W3 w4)
    have hb4w := Lib.hid (HB3.out.trans (hb4.mono HB3.out.size))
    have hs4 := Lib.hid hb4.size
    clear R4 hb4 hown' hgrow hnil
    go_wp2_with (at_builtin; refine twinSt_append (w := w) (w1 := w4) (lo := W3.heap.size) (v := v') (n := tn) (xs := ts) HR4.out.1 ?d4 ?d5 hb4w.out ?d6 rfl _ _ rfl rfl rfl ?_)
    case d4 => have := HB3.out.size; omega
    case d5 => exact hs4.out
    case d6 => omega
    intro g4 c4 w5 H5 hc4
    have K5 := Lib.hid (fun k (hk : k < W3.heap.size) => (H5.out.2.2 k hk).trans (HR4.out.2.block k hk))
    have r5 : w5.heap[w.heap.size]? = some (.cells #[.int .i64 nodes, .slice (some ⟨g1, 0, none⟩) pn c1, .slice (some ⟨g2, 0, none⟩) sn c2, .int .i64 long, .slice (some ⟨g3, 0, none⟩) bn c3, .slice ta tn tc, .int .i64 miss, .int .i64 good, .int .i64 fresh] 25 (0, 0)) := (K5.out _ (by have := HS3.out; omega)).trans HG3.out
    have k0 : w5.cell? ⟨w.heap.size, 0, none⟩ = some (.int .i64 nodes) := heap_cell r5 0
    have k1 : w5.cell? ⟨w.heap.size, 1, none⟩ = some (.slice (some ⟨g1, 0, none⟩) pn c1) := heap_cell r5 1
    have k2 : w5.cell? ⟨w.heap.size, 2, none⟩ = some (.slice (some ⟨g2, 0, none⟩) sn c2) := heap_cell r5 2
    have k3 : w5.cell? ⟨w.heap.size, 3, none⟩ = some (.int .i64 long) := heap_cell r5 3
    have k4 : w5.cell? ⟨w.heap.size, 4, none⟩ = some (.slice (some ⟨g3, 0, none⟩) bn c3) := heap_cell r5 4
    have k5 : w5.cell? ⟨w.heap.size, 5, none⟩ = some (.slice ta tn tc) := heap_cell r5 5
    have k6 : w5.cell? ⟨w.heap.size, 6, none⟩ = some (.int .i64 miss) := heap_cell r5 6
    have k7 : w5.cell? ⟨w.heap.size, 7, none⟩ = some (.int .i64 good) := heap_cell r5 7
    have k8 : w5.cell? ⟨w.heap.size, 8, none⟩ = some (.int .i64 fresh) := heap_cell r5 8
    rw [HTA.out] at k5
    have f5 := heap_thawed r5 5
    have z5 : (w5.setCell ⟨w.heap.size, 5, none⟩ (.slice (some ⟨g4, 0, none⟩) tn c4)).heap[w.heap.size + 1]? = some (.cells #[.int .i64 0, .slice none 0 0, .slice none 0 0, .int .i64 0, .slice none 0 0, .slice none 0 0, .int .i64 0, .int .i64 0, .int .i64 0] 25 (0, 0)) := (Below.heap_setCell _ _ _ _ (by simp)).trans ((K5.out _ (by have := HS3.out; omega)).trans HZ3.out)
    have Z5 := Lib.hid z5
    clear z5
    refine Paused.mk ?_
    go_wp2_with (first | (refine wpList_store_row rfl 25 _ _ rfl (w.heap.size + 1) #[.int .i64 nodes, .slice (some ⟨g1, 0, none⟩) pn c1, .slice (some ⟨g2, 0, none⟩) sn c2, .int .i64 long, .slice (some ⟨g3, 0, none⟩) bn c3, .slice (some ⟨g4, 0, none⟩) tn c4, .int .i64 miss, .int .i64 good, .int .i64 fresh] rfl rfl 25 #[.int .i64 0, .slice none 0 0, .slice none 0 0, .int .i64 0, .slice none 0 0, .slice none 0 0, .int .i64 0, .int .i64 0, .int .i64 0] Z5.out ?x1 ?x2 ?x3 ?_) | fail)
    case x1 => kernel_rfl
    case x2 => rfl
    case x3 => simp [Value.oneCell']
    obtain ⟨W, hW⟩ : ∃ W, W = (w5.setCell ⟨w.heap.size, 5, none⟩ (.slice (some ⟨g4, 0, none⟩) tn c4)).setRow (w.heap.size + 1) #[.int .i64 nodes, .slice (some ⟨g1, 0, none⟩) pn c1, .slice (some ⟨g2, 0, none⟩) sn c2, .int .i64 long, .slice (some ⟨g3, 0, none⟩) bn c3, .slice (some ⟨g4, 0, none⟩) tn c4, .int .i64 miss, .int .i64 good, .int .i64 fresh] := ⟨_, rfl⟩
    rw [← hW]
    have hrow : W.heap[w.heap.size + 1]? = some (.cells #[.int .i64 nodes, .slice (some ⟨g1, 0, none⟩) pn c1, .slice (some ⟨g2, 0, none⟩) sn c2, .int .i64 long, .slice (some ⟨g3, 0, none⟩) bn c3, .slice (some ⟨g4, 0, none⟩) tn c4, .int .i64 miss, .int .i64 good, .int .i64 fresh] 25 (0, 0)) := by rw [hW]; exact setRow_heap _ _ _ _ _ _ Z5.out
    have hkW : ∀ k, w.heap.size + 2 ≤ k → W.heap[k]? = w5.heap[k]? := fun k hk => by rw [hW, setRow_other _ _ _ _ (by omega), Below.heap_setCell _ _ _ _ (by simp; omega)]
    have hbW : Below w.heap.size w W := by rw [hW]; exact below_setRow (H5.out.2.1.setCell (Nat.le_refl _) _) (by omega) _
    have q0 : W.cell? ⟨w.heap.size + 1, 0, none⟩ = some (.int .i64 nodes) := heap_cell hrow 0
    have q1 : W.cell? ⟨w.heap.size + 1, 1, none⟩ = some (.slice (some ⟨g1, 0, none⟩) pn c1) := heap_cell hrow 1
    have q2 : W.cell? ⟨w.heap.size + 1, 2, none⟩ = some (.slice (some ⟨g2, 0, none⟩) sn c2) := heap_cell hrow 2
    have q3 : W.cell? ⟨w.heap.size + 1, 3, none⟩ = some (.int .i64 long) := heap_cell hrow 3
    have q4 : W.cell? ⟨w.heap.size + 1, 4, none⟩ = some (.slice (some ⟨g3, 0, none⟩) bn c3) := heap_cell hrow 4
    have q5 : W.cell? ⟨w.heap.size + 1, 5, none⟩ = some (.slice (some ⟨g4, 0, none⟩) tn c4) := heap_cell hrow 5
    have q6 : W.cell? ⟨w.heap.size + 1, 6, none⟩ = some (.int .i64 miss) := heap_cell hrow 6
    have q7 : W.cell? ⟨w.heap.size + 1, 7, none⟩ = some (.int .i64 good) := heap_cell hrow 7
    have q8 : W.cell? ⟨w.heap.size + 1, 8, none⟩ = some (.int .i64 fresh) := heap_cell hrow 8
    refine bodyPost_ret (v := .agg #[.int .i64 nodes, .slice (some ⟨g1, 0, none⟩) pn c1, .slice (some ⟨g2, 0, none⟩) sn c2, .int .i64 long, .slice (some ⟨g3, 0, none⟩) bn c3, .slice (some ⟨g4, 0, none⟩) tn c4, .int .i64 miss, .int .i64 good, .int .i64 fresh]) (by simp [results, Tryd.results32, go_sem, q0, q1, q2, q3, q4, q5, q6, q7, q8]) rfl ?_
    have KK := K5.out
    have hz := HS0.out
    have hz1 := HS1.out
    have hz2 := HS2.out
    have hz3 := HS3.out
    have U1 := ((T1''.out.keptB KK).kept (fun k hk => hkW k (by omega))).lower (show w.heap.size ≤ W0.heap.size by omega)
    have U2 := ((T2'.out.keptB KK).kept (fun k hk => hkW k (by omega))).lower (show w.heap.size ≤ W1.heap.size by omega)
    have U3 := ((T3.out.keptB KK).kept (fun k hk => hkW k (by omega))).lower (show w.heap.size ≤ W2.heap.size by omega)
    have U4 := (H5.out.1.kept (fun k hk => hkW k (by omega))).lower (show w.heap.size ≤ W3.heap.size by omega)
    exact ⟨g1, c1, g2, c2, g3, c3, g4, c4, rfl, Lib.hid ⟨U1, U2, U3, U4, hbW⟩⟩
end Go.Proofs.YtibncdkekceokaaDoor
