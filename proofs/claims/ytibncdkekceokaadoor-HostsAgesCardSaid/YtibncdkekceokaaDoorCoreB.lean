/- CoreB: joined of: Sorted, Compact, Single, Rule3, Clone, Own, Repeat, NewA, Cfg, Mid. -/
import Derived.Test.YtibncdkekceokaaDoorCoreA
import Derived.Test.YtibncdkekceokaaDoorShelf
import Derived.RangeFuncBox
import Derived.RangeFuncLeaves
import Derived.Shelf.Abstract
import Derived.OwnWalkIn
import Derived.TacticsInMore
import Derived.LoopNIn
import Derived.LoopIn
import Derived.Maps.AppendAt
import Derived.Shelf.SlIterI.Sorted
import Derived.Lib.SlicesCompact
import Derived.Deep.OwnRows
import Derived.Laws.CopyOwn
import Derived.Deep.RegionLaw
/- slices.Values, AppendSeq, Collect, Sorted at ints: what is sorted is a new slice that holds the same numbers, rising. The walks of the iterator and of the loop over it are turned from the guide's worked texts on a range over a function. -/
namespace Go.Proofs.YtibncdkekceokaaDoor
open Go.RowKit Go.Shelf Go.Sort

attribute [local go_sem] Oper.semAt_some

theorem Tryd.infoI : (Tryd.prog.info? 3).map (fun i => (i.zero, i.size, i.bytes)) = some (some (.int .i64 0), 1, 8) := by kernel_rfl

/-- What has come when k rounds are over. -/
def upTo {α : Type} (f : Nat → α) (k : Nat) : List α := (List.range k).map f
theorem upTo_succ {α : Type} (f : Nat → α) (k : Nat) : upTo f (k + 1) = upTo f k ++ [f k] := by simp [upTo, List.range_succ]
theorem upTo_length {α : Type} (f : Nat → α) (k : Nat) : (upTo f k).length = k := by simp [upTo]
theorem upTo_all (zs : List Int) : upTo (fun j => zs[j]?.getD 0) zs.length = zs := by
  apply List.ext_getElem
  · simp [upTo]
  · intro i h1 h2
    simp [upTo, h2]
theorem upTo_take (zs : List Int) {k : Nat} (hk : k ≤ zs.length) : upTo (fun j => zs[j]?.getD 0) k = zs.take k := by
  apply List.ext_getElem
  · simp [upTo, hk]
  · intro i h1 h2
    have : i < zs.length := by simp [upTo] at h1; omega
    simp [upTo, this]

set_option maxRecDepth 100000 in
set_option maxHeartbeats 2000000 in
theorem values1_in (F : Fence) (n : Nat) (h7 : F.fn 137) (hro : F.round = none) (hn : 1 ≤ n) (l Bs n₀ b off len cap : Nat) (zs : List Int) (hreach : len * 8 ≤ 140737488351232) (hb : b < n₀) (J Jx : List Int → World → Prop)
    (hY : ∀ pre x W, J pre W → pre.length < len → YieldAt F (n - 1) Tryd.prog l #[.int .i64 x] W fun e W' =>
      (e = .returned (.bool true) ∧ J (pre ++ [x]) W' ∧ Below n₀ W W') ∨ (e = .returned (.bool false) ∧ Jx (pre ++ [x]) W'))
    (W : World) (hBs : W.cell? ⟨Bs, 0, none⟩ = some (.slice (some ⟨b, off, none⟩) len cap)) (hc : ∀ j, j < len → W.cell? ⟨b, off + j, none⟩ = some (.int .i64 (zs[j]?.getD 0))) (h0 : J [] W) :
    CallsIn F n Tryd.prog 137 #[.func (.yield l) #[] #[], .pointer (some ⟨Bs, 0, none⟩)] W fun e W' => (∃ v, e = .returned v) ∧
      ((∃ ys, ys = upTo (fun j => zs[j]?.getD 0) len ∧ J ys W') ∨ (∃ pre, (∃ k, k ≤ len ∧ pre = upTo (fun j => zs[j]?.getD 0) k) ∧ Jx pre W')) := by
  refine callsIn_of_wp Tryd.func137 rfl h7 ?_ hro
  simp only [Tryd.ntmps137, List.size_toArray, List.length_cons, List.length_nil, Nat.reduceAdd, Nat.reduceSub, Array.replicate_succ, Array.replicate_zero, List.push_toArray, List.append_toArray, List.nil_append, List.cons_append]
  gi_wp2
  gi_loopw [7] (fun i wr => ∃ k : Nat, k ≤ len ∧ i = .int .i64 k ∧ J (upTo (fun j => zs[j]?.getD 0) k) wr ∧ Below n₀ W wr)
    (fun i _ => len - (intOf i).toNat)
  case atStart => exact ⟨0, Nat.zero_le _, rfl, h0, Below.refl _ _⟩
  case round =>
    obtain ⟨k, hk, rfl, hJs, hnx⟩ := hrel
    have hcx : k < len → wr.cell? ⟨b, off + k, none⟩ = some (.int .i64 (zs[k]?.getD 0)) := fun h => (hnx.cell (p := ⟨b, off + k, none⟩) hb).trans (hc k h)
    by_cases hlt : k < len
    · obtain ⟨fn, tmps, assign, body, hy, hR⟩ := hY _ (zs[k]?.getD 0) wr hJs (by rw [upTo_length]; exact hlt)
      have hcx' := hcx hlt
      gi_wp2
      refine hR.mono ?_
      rintro e W3 (⟨rfl, hJ3, hk3⟩ | ⟨rfl, hJx3⟩)
      · gi_wp2
        go_roundw
        case rel => exact ⟨k + 1, by omega, by simp, by rw [upTo_succ]; exact hJ3, hnx.trans hk3⟩
        case measure => simp [intOf]; omega
      · gi_wp2
        refine bodyPost_ret (results_none rfl _ _ _) rfl ?_
        exact ⟨⟨_, rfl⟩, .inr ⟨_, ⟨k + 1, by omega, (upTo_succ _ _).symm⟩, hJx3⟩⟩
    · obtain rfl : k = len := by omega
      gi_wp2
      go_end0
      exact ⟨⟨_, rfl⟩, .inl ⟨_, rfl, hJs⟩⟩

/-- The slice value sv holds the ints zs, in a block below n₀; or it is nil and there are none. -/
def IntsAt (n₀ : Nat) (W : World) (sv : Value) (zs : List Int) : Prop :=
  (sv = .slice none 0 0 ∧ zs = []) ∨ ∃ b off cap, sv = .slice (some ⟨b, off, none⟩) zs.length cap ∧ b < n₀ ∧ ∀ j, j < zs.length → W.cell? ⟨b, off + j, none⟩ = some (.int .i64 (zs[j]?.getD 0))
theorem IntsAt.below {n₀ : Nat} {A B : World} (h : Below n₀ A B) {sv : Value} {zs : List Int} : IntsAt n₀ A sv zs → IntsAt n₀ B sv zs
  | .inl e => .inl e
  | .inr ⟨b, off, cap, e, hb, hc⟩ => .inr ⟨b, off, cap, e, hb, fun j hj => (h.cell (p := ⟨b, off + j, none⟩) hb).trans (hc j hj)⟩

set_option maxRecDepth 100000 in
set_option maxHeartbeats 1000000 in
theorem values1_nil_in (F : Fence) (n : Nat) (h7 : F.fn 137) (hro : F.round = none) (l Bs : Nat) (J : List Int → World → Prop) (W : World) (hBs : W.cell? ⟨Bs, 0, none⟩ = some (.slice none 0 0)) (h0 : J [] W) :
    CallsIn F n Tryd.prog 137 #[.func (.yield l) #[] #[], .pointer (some ⟨Bs, 0, none⟩)] W fun e W' => (∃ v, e = .returned v) ∧ J [] W' := by
  refine callsIn_of_wp Tryd.func137 rfl h7 ?_ hro
  simp only [Tryd.ntmps137, List.size_toArray, List.length_cons, List.length_nil, Nat.reduceAdd, Nat.reduceSub, Array.replicate_succ, Array.replicate_zero, List.push_toArray, List.append_toArray, List.nil_append, List.cons_append]
  gi_wp2
  gi_loopw [7] (fun i wr => i = .int .i64 0 ∧ J [] wr) (fun _ _ => 0)
  case atStart => exact ⟨rfl, h0⟩
  case round =>
    obtain ⟨rfl, hJs⟩ := hrel
    gi_wp2
    go_end0
    exact ⟨⟨_, rfl⟩, hJs⟩

theorem values_stops (F : Fence) (n : Nat) (h7 : F.fn 137) (hro : F.round = none) (hn : 1 ≤ n) (Bs n₀ : Nat) (sv : Value) (zs : List Int) (hreach : zs.length * 8 ≤ 140737488351232) (w : World) (hBs : Bs < w.heap.size) (hn₀ : n₀ ≤ w.heap.size)
    (hc : w.cell? ⟨Bs, 0, none⟩ = some sv) (hI : IntsAt n₀ w sv zs) :
    SeqStopsK F n Tryd.prog 137 #[.pointer (some ⟨Bs, 0, none⟩)] (fun x : Int => #[Value.int .i64 x]) (Below n₀) (fun ys => ys = zs) (fun pre => pre <+: zs) zs.length w := fun l J Jx W hW _ _ hY h0 => by
  have hc' := (hW.cell (p := ⟨Bs, 0, none⟩) hBs).trans hc
  rcases hI.below (hW.mono hn₀) with ⟨rfl, rfl⟩ | ⟨b, off, cap, rfl, hb, hcs⟩
  · exact (values1_nil_in F n h7 hro l Bs J W hc' h0).mono fun e W' ⟨he, hj⟩ => ⟨he, .inl ⟨_, rfl, hj⟩⟩
  · refine (values1_in F n h7 hro hn l Bs n₀ b off zs.length cap zs hreach hb J Jx hY W hc' hcs h0).mono ?_
    rintro e W' ⟨he, ⟨ys, rfl, hj⟩ | ⟨pre, ⟨k, hk, rfl⟩, hj⟩⟩
    · exact ⟨he, .inl ⟨_, upTo_all zs, hj⟩⟩
    · exact ⟨he, .inr ⟨_, by rw [upTo_take zs hk]; exact List.take_prefix _ _, hj⟩⟩

set_option maxRecDepth 100000 in
set_option maxHeartbeats 2000000 in
theorem appendSeq_in (F : Fence) (n : Nat) (h3 : F.fn 138) (h5 : F.fn 137) (hro : F.round = none) (hn : 3 ≤ n) (Bs : Nat) (sv : Value) (zs : List Int) (hlen : zs.length ≤ 1000000) (w : World)
    (hBs : Bs < w.heap.size) (hc0 : w.cell? ⟨Bs, 0, none⟩ = some sv) (hI : IntsAt w.heap.size w sv zs) :
    CallsIn F n Tryd.prog 138 #[.slice none 0 0, .func (.func 137) #[] #[.pointer (some ⟨Bs, 0, none⟩)]] w fun e W' => ∃ v, e = .returned v ∧ W'.ownsRow w.heap.size 3 1 v zs.length (zs.map (Value.int .i64)) ∧ (v = .slice none 0 0 ↔ zs = []) ∧ Below w.heap.size w W' := by
  have h1 : 1 ≤ n := by omega
  obtain ⟨i0, hi, hz0, hz1, hz2⟩ := info_parts Tryd.infoI
  refine callsIn_of_wp_marks Tryd.func138 rfl h3 ?_ hro
  simp only [Tryd.ntmps138, List.size_toArray, List.length_cons, List.length_nil, Nat.reduceAdd, Nat.reduceSub, Array.replicate_succ, Array.replicate_zero, List.push_toArray, List.append_toArray, List.nil_append, List.cons_append]
  gi_wp2
  have bO := Boxed.new w 22 (.slice none 0 0)
  have hB0 : Below w.heap.size w (w.alloc (.cells #[.slice none 0 0] 22)) := ((Below.refl _ w).alloc (Nat.le_refl _) _)
  refine wpIn_rangeFunc_ownG hro h1 (gf := 137) (lb := #[.pointer (some ⟨Bs, 0, none⟩)]) rfl h5 (enters_of Tryd.func137 (by kernel_rfl) rfl)
    (values_stops F (n - 1) h5 hro (by omega) Bs w.heap.size sv zs (by omega) _ (by simp; omega) (by simp) ((hB0.cell (p := ⟨Bs, 0, none⟩) hBs).trans hc0) (hI.below hB0)) belowK_t (belowK_b (by simp)) (Below.refl _ _) (fun _ => rfl)
    (fun pre W => (∃ v, Boxed W w.heap.size 22 v ∧ W.ownsRow w.heap.size 3 1 v pre.length (pre.map (Value.int .i64)) ∧ (v = .slice none 0 0 ↔ pre = [])) ∧ Below w.heap.size w W)
    (fun _ _ _ => False)
    (OwnFrom.and (Own.from (holdsRow_own w.heap.size w.heap.size 22 3 1 (fun pre => pre.length) (fun pre => pre.map (Value.int .i64)) (fun pre v => v = .slice none 0 0 ↔ pre = [])) _) (ownFrom_below (Nat.le_refl _) (by simp)))
    (fun _ _ _ _ _ hs _ _ => hs)
    ⟨⟨_, bO, World.ownsRow_nil _ _ _ _, by simp⟩, hB0⟩
    (fun x => { tmps := #[.slice none 0 0, .func (.func 137) #[] #[.pointer (some ⟨Bs, 0, none⟩)], .pointer (some ⟨w.heap.size, 0, none⟩), undef, .slice none 0 0, .int .i64 x, .func (.func 137) #[] #[.pointer (some ⟨Bs, 0, none⟩)], .int .i64 x, undef, undef, undef, undef, undef], defers := [] }) ?assign ?body ?done ?stop
  case assign =>
    intro l x W K hK
    gi_wp2
    exact hK
  case body =>
    rintro l pre x W ⟨⟨v, hv, hrow, hnil⟩, hB⟩ hlt
    have hc := hv.cell
    gi_wp2_with (gi_at_builtin; refine wpListIn_append_own _ rfl _ _ 22 rfl w.heap.size 3 i0 (.int .i64 0) 1 8 Tryd.underlying22 hi hz0 hz1 hz2 rfl (by decide) _ _ _ rfl (hrow.alloc _) ⟨W.heap.size, 0, none⟩ 1 1 [.int .i64 x] rfl rfl (cell_one_new _ _ _) (by simp [Value.oneCell']) (by unfold maxLen; omega) (by omega) (by have := hB.size; simp; omega) ?_; intro v' w1 hown' hgrow _; obtain ⟨g', cap', rfl⟩ := ownsRow_succ hown'; obtain ⟨hv1, hv2, hr2, hk2, hb2⟩ := hv.appended (by decide) hrow hB.size (Nat.le_refl _) hown' hgrow; have hc1 := hv1.cell; have hf1 := hv1.frozen)
    exact ⟨hk2.from _, hb2, ⟨_, hv2, by simpa using hr2, by simp⟩, hB.trans hb2⟩
  case done =>
    rintro D ys W hD rfl ⟨⟨v, hv, hrow, hnil⟩, hB⟩ hK
    have hc := hv.cell
    gi_wp2
    refine ⟨by simp, .inl ⟨_, _, rfl, run_takeDeferred hK, ?_⟩⟩
    exact ⟨_, results_tmp rfl _ _ _, v, rfl, ownsRow_putObj hrow _ hK rfl, hnil, hB.trans (belowK_b (w := w) (Nat.le_refl _) W D _ _ (by simp at hD; omega) hK rfl rfl)⟩
  case stop =>
    rintro D c pre W _ _ h _
    exact h.elim
end Go.Proofs.YtibncdkekceokaaDoor

/- What slices.Compact leaves of rising numbers is as long as they are just if no two are equal. Plain Lean. -/
namespace Go.Proofs.YtibncdkekceokaaDoor

theorem pairwise_lt_of_adj (xs : List Int) (h : ∀ j (h : j + 1 < xs.length), xs[j] < xs[j + 1]) : xs.Pairwise (· < ·) := by
  rw [List.pairwise_iff_getElem]
  intro i j hi hj hij
  induction j with
  | zero => omega
  | succ j ih =>
    have h1 := h j hj
    by_cases e : i = j
    · subst e; exact h1
    · exact Int.lt_trans (ih (by omega) (by omega)) h1

theorem compact_length_iff (l : List Int) (hs : l.Pairwise (· ≤ ·)) : (Lib.compact l).length = l.length ↔ l.Nodup := by
  unfold Lib.compact Lib.compactUpTo
  rw [List.length_map]
  constructor
  · intro h
    have h2 : ((List.range l.length).filter (Lib.keeps l.toArray)).length = (List.range l.length).length := by rw [h, List.length_range]
    rw [List.length_filter_eq_length_iff] at h2
    have hlt : l.Pairwise (· < ·) := by
      apply pairwise_lt_of_adj
      intro j hj
      have hk := h2 (j + 1) (List.mem_range.2 hj)
      have hle := List.pairwise_iff_getElem.1 hs j (j + 1) (by omega) hj (by omega)
      simp only [Lib.keeps, decide_eq_true_eq, Nat.add_one_ne_zero, false_or, Nat.add_sub_cancel] at hk
      rw [getElem!_pos _ (j + 1) (by simpa using hj), getElem!_pos _ j (by simp; omega)] at hk
      simp only [List.getElem_toArray] at hk
      omega
    exact hlt.imp fun h => by omega
  · intro h
    have : ((List.range l.length).filter (Lib.keeps l.toArray)) = List.range l.length := by
      rw [List.filter_eq_self]
      intro j hj
      have hj' := List.mem_range.1 hj
      simp only [Lib.keeps, decide_eq_true_eq]
      by_cases e : j = 0
      · exact .inl e
      · refine .inr ?_
        rw [getElem!_pos _ j (by simpa using hj'), getElem!_pos _ (j - 1) (by simp; omega)]
        simp only [List.getElem_toArray]
        exact fun e2 => absurd e2.symm (List.pairwise_iff_getElem.1 h (j - 1) j (by omega) hj' (by omega))
    rw [this, List.length_range]

theorem rising_mergeSort (zs : List Int) : (zs.mergeSort fun x y => decide (x ≤ y)).Pairwise (· ≤ ·) := by
  have := List.pairwise_mergeSort (le := fun x y : Int => decide (x ≤ y)) (fun a b c h1 h2 => by simp at *; omega) (fun a b => by simp; omega) zs
  exact this.imp fun h => by simpa using h
theorem compact_sorted_iff (zs : List Int) : (Lib.compact (zs.mergeSort fun x y => decide (x ≤ y))).length = zs.length ↔ zs.Nodup := by
  rw [← (List.mergeSort_perm zs _).nodup_iff, ← compact_length_iff _ (rising_mergeSort zs), List.length_mergeSort]
end Go.Proofs.YtibncdkekceokaaDoor

/- configs.single: is none of some numbers twice there? -/
namespace Go.Proofs.YtibncdkekceokaaDoor
open Go.RowKit Go.Shelf Go.Sort

theorem collect_any (Bs : Nat) (sv : Value) (zs : List Int) (hlen : zs.length ≤ 1000000) (w : World) (hBs : Bs < w.heap.size) (hc0 : w.cell? ⟨Bs, 0, none⟩ = some sv) (hI : IntsAt w.heap.size w sv zs) :
    Calls Tryd.prog 135 #[.func (.func 137) #[] #[.pointer (some ⟨Bs, 0, none⟩)]] w fun e W' => ∃ v, e = .returned v ∧ W'.ownsRow w.heap.size 3 1 v zs.length (zs.map (Value.int .i64)) ∧ (v = .slice none 0 0 ↔ zs = []) ∧ Below w.heap.size w W' := by
  have hA := (callsIn_wide (n := 6)).1 (appendSeq_in Fence.wide 6 trivial trivial rfl (by omega) Bs sv zs hlen w hBs hc0 hI)
  have HA := Lib.hid hA
  clear hA hc0 hI
  go_enter Tryd.func135, Tryd.ntmps135
  go_wp2_with fail
  refine HA.out.mono ?_
  rintro e W' ⟨v, rfl, ho, hn, hb⟩
  have HN := Lib.hid hn
  clear hn
  go_wp2
  go_ret
  exact ⟨v, rfl, ho, HN.out, hb⟩

/-- slices.Sorted of slices.Values' iterator, of a list that is not empty. -/
theorem sorted_any (Bs : Nat) (sv : Value) (zs : List Int) (hlen : zs.length ≤ 1000000) (h0 : 0 < zs.length) (w : World) (hBs : Bs < w.heap.size) (hc0 : w.cell? ⟨Bs, 0, none⟩ = some sv) (hI : IntsAt w.heap.size w sv zs) :
    Calls Tryd.prog 125 #[.func (.func 137) #[] #[.pointer (some ⟨Bs, 0, none⟩)]] w fun e W' => ∃ g cap, e = .returned (.slice (some ⟨g, 0, none⟩) zs.length cap) ∧ W'.ownsRow w.heap.size 3 1 (.slice (some ⟨g, 0, none⟩) zs.length cap) zs.length ((zs.mergeSort fun x y => decide (x ≤ y)).map (Value.int .i64)) ∧ Below w.heap.size w W' := by
  go_enter Tryd.func125, Tryd.ntmps125
  go_wp2_with fail
  refine (collect_any Bs sv zs hlen w hBs hc0 hI).mono ?_
  rintro e W ⟨v, rfl, hrow, hnil, hb⟩
  rcases hrow.2 with ⟨rfl, hz⟩ | ⟨gb, cap, cur, rfl, hbase, hgb, r1, r2, r3, r4⟩
  · omega
  · have hH : Holds (Value.int .i64) W gb 0 zs.toArray := holds_of_block_i hgb (by simpa using r4)
    have hgl : gb < W.heap.size := (Array.getElem?_eq_some_iff.1 hgb).1
    have hsz : zs.length < 4611686018427387904 := by omega
    have cS := Lib.hid (Tryd.slices_Sort_int gb 0 cap zs W hH hgl hsz)
    have R := Lib.hid (⟨hbase, hgb, r1, r2, r3⟩ : w.heap.size ≤ gb ∧ W.heap[gb]? = some (.cells cur 3 (0, 0)) ∧ zs.length ≤ cap ∧ cap ≤ maxLen ∧ cur.size = cap * 1)
    clear hnil hrow hgb r1 r2 r3 r4 hH hc0 hI
    go_wp2_with fail
    refine cS.out.mono ?_
    rintro e w' ⟨rfl, nn, os, rfl⟩
    go_wp2
    go_ret
    obtain ⟨hbase, hgb, r1, r2, r3⟩ := R.out
    exact ⟨gb, cap, rfl, ownsRow_sorted_i (by simp) hbase hgb r1 r2 r3, hb.grown (grownBy_sorted_i _) hb.size (fun j hj => by cases hj; exact hbase)⟩

theorem values_any (a : Option Addr) (n cap : Nat) (w : World) :
    Calls Tryd.prog 126 #[.slice a n cap] w fun e w' => e = .returned (.func (.func 137) #[] #[.pointer (some ⟨w.heap.size, 0, none⟩)]) ∧ w.alloc (.cells #[.slice a n cap] 22) = w' := by
  go_enter Tryd.func126, Tryd.ntmps126
  go_wp2
  go_ret
  exact ⟨rfl, rfl⟩

def singleB (zs : List Int) : Bool := decide zs.Nodup
set_option maxHeartbeats 1000000 in
theorem single_any (a : Option Addr) (n cap : Nat) (zs : List Int) (hlen : zs.length ≤ 1000000) (h0 : 0 < zs.length) (w : World) (hI : IntsAt w.heap.size w (.slice a n cap) zs) :
    Calls Tryd.prog 102 #[.slice a n cap] w fun e w' => e = .returned (.bool (singleB zs)) ∧ Below w.heap.size w w' := by
  have hb := (Below.refl w.heap.size w).alloc (Nat.le_refl _) (.cells #[.slice a n cap] 22)
  have hI1 : IntsAt (w.alloc (.cells #[.slice a n cap] 22)).heap.size (w.alloc (.cells #[.slice a n cap] 22)) (.slice a n cap) zs := by
    rcases hI.below hb with h | ⟨b, off, c, h1, h2, h3⟩
    · exact .inl h
    · exact .inr ⟨b, off, c, h1, by simp; omega, h3⟩
  have HS := Lib.hid (sorted_any w.heap.size (.slice a n cap) zs hlen h0 _ (by simp) (by simp [go_sem]) hI1)
  clear hI hI1
  go_enter Tryd.func102, Tryd.ntmps102
  go_wp2_with (go_at_call 126; refine (values_any _ _ _ _).mono ?_; rintro e w' ⟨rfl, rfl⟩)
  refine HS.out.mono ?_
  rintro e W ⟨g, c, rfl, hrow, hb1⟩
  simp only [World.size_alloc] at hb1 hrow
  rcases hrow.2 with ⟨hv, _⟩ | ⟨g', cap', cur, hv, hbase, hgb, r1, r2, r3, r4⟩
  · simp at hv
  · simp only [Value.slice.injEq, Option.some.injEq, Addr.mk.injEq, true_and, and_true] at hv
    obtain ⟨rfl, rfl⟩ := hv
    have hl : (zs.mergeSort fun x y => decide (x ≤ y)).length = zs.length := List.length_mergeSort ..
    have hH : Holds (Value.int .i64) W g 0 (zs.mergeSort fun x y => decide (x ≤ y)).toArray := holds_of_block_i hgb (by rw [hl]; simpa using r4)
    have cC := Tryd.slices_Compact_int g 0 c (zs.mergeSort fun x y => decide (x ≤ y)) W hH (by omega) (by omega)
    rw [hl] at cC
    have CC := Lib.hid cC
    have HB := Lib.hid (⟨hb, hb1, hbase⟩ : Below w.heap.size w _ ∧ Below (w.heap.size + 1) _ W ∧ w.heap.size + 1 ≤ g)
    have HE := Lib.hid (compact_sorted_iff zs)
    clear hl hH cC hrow hgb r1 r2 r3 r4 hb hb1 hbase
    go_wp2_with fail
    refine CC.out.mono ?_
    rintro e w' ⟨rfl, q, rfl⟩
    go_wp2
    go_ret
    obtain ⟨hb, hb1, hbase⟩ := HB.out
    refine ⟨ret_bool ?_, ?_⟩
    · rw [Bool.eq_iff_iff]
      simp only [singleB, decide_eq_true_eq, ← HE.out]
      simp
      omega
    · have hg := grownBy_sorted_i (w := W) (g := g) (n := q) (os := #[]) (Lib.compact (zs.mergeSort fun x y => decide (x ≤ y)) ++ List.replicate (zs.length - (Lib.compact (zs.mergeSort fun x y => decide (x ≤ y))).length) 0).toArray
      rw [grow_empty] at hg
      exact (hb.trans (hb1.mono (by omega))).grown hg (by have := hb1.size; simp at this; omega) (fun k hk => by cases hk; omega)
end Go.Proofs.YtibncdkekceokaaDoor

/- configs.rules: the third: a config's pairs. -/
namespace Go.Proofs.YtibncdkekceokaaDoor
open Go.RowKit

theorem own_ints {w : World} {base : Nat} {v : Value} {n : Nat} {zs : List Int} (h : w.ownsRow base 3 1 v n (zs.map eI)) : (∃ a cap, v = .slice a n cap) ∧ n = zs.length ∧ IntsAt w.heap.size w v zs := by
  have hn : n = zs.length := by have := h.1; simpa using this.symm
  refine ⟨?_, hn, ?_⟩
  · rcases h.2 with ⟨rfl, rfl⟩ | ⟨g, cap, cur, rfl, _⟩
    · exact ⟨_, _, rfl⟩
    · exact ⟨_, _, rfl⟩
  · subst hn
    rcases h.2 with ⟨rfl, h0⟩ | ⟨g, cap, cur, rfl, hb, hg, _⟩
    · exact .inl ⟨rfl, List.eq_nil_of_length_eq_zero h0⟩
    · refine .inr ⟨g, 0, cap, rfl, (Array.getElem?_eq_some_iff.1 hg).1, fun j hj => ?_⟩
      have := h.cells (g := g) rfl j (eI (zs[j]?.getD 0)) (by simp [hj])
      have e : (⟨g, 0, none⟩ : Addr).add j = ⟨g, j, none⟩ := by unfold Addr.add; split <;> simp_all
      rw [e] at this
      rw [Nat.zero_add]
      exact this

def rule3B (nodes : Int) (ps : List Int) : Bool := insideB ps nodes && sortedB ps && singleB (halvesL nodes ps)
set_option maxHeartbeats 2000000 in
theorem rule3_any (nodes long miss good fresh : Int) (pa sa ba ta : Option Addr) (pn pc sn sc bn bc tn tc : Nat) (ps : List Int) (w : World) (hs : Signs w) (hr : Reads w eI pa pn ps) (h0 : 0 < pn) (hpn : pn ≤ 400000) :
    Calls Tryd.prog 98 #[.agg #[.int .i64 nodes, .slice pa pn pc, .slice sa sn sc, .int .i64 long, .slice ba bn bc, .slice ta tn tc, .int .i64 miss, .int .i64 good, .int .i64 fresh]] w fun e w' => e = .returned (.int .i64 (mustE (rule3B nodes ps))) ∧ Below w.heap.size w w' := by
  have hb := (Below.refl w.heap.size w).alloc (Nat.le_refl _) (.cells #[.int .i64 nodes, .slice pa pn pc, .slice sa sn sc, .int .i64 long, .slice ba bn bc, .slice ta tn tc, .int .i64 miss, .int .i64 good, .int .i64 fresh] 25)
  have hl := Lib.hid hr.len
  have HI := Lib.hid (inside_any pa pn pc ps nodes _ (hr.below hb))
  have hc : ∀ i v, (#[.int .i64 nodes, .slice pa pn pc, .slice sa sn sc, .int .i64 long, .slice ba bn bc, .slice ta tn tc, .int .i64 miss, .int .i64 good, .int .i64 fresh])[i]? = some v → (w.alloc (.cells #[.int .i64 nodes, .slice pa pn pc, .slice sa sn sc, .int .i64 long, .slice ba bn bc, .slice ta tn tc, .int .i64 miss, .int .i64 good, .int .i64 fresh] 25)).cell? ⟨w.heap.size, i, none⟩ = some v := fun i v h => by rw [World.cell?_alloc_at _ _ _ _ rfl]; exact h
  have HC := Lib.hid hc
  clear hc
  have R3 : ∀ b1 b2 b3 : Bool, b1 = insideB ps nodes → b2 = sortedB ps → b3 = singleB (halvesL nodes ps) → rule3B nodes ps = (b1 && b2 && b3) := fun b1 b2 b3 e1 e2 e3 => by subst e1 e2 e3; rfl
  have HR := Lib.hid R3
  clear R3
  go_enter Tryd.func98, Tryd.ntmps98
  go_wp2_with fail
  refine HI.out.mono ?_
  rintro e w1 ⟨rfl, hb1⟩
  simp only [World.size_alloc] at hb1
  have hw1 : Below w.heap.size w w1 := hb.trans (hb1.mono (by omega))
  have cells : ∀ i v, (#[.int .i64 nodes, .slice pa pn pc, .slice sa sn sc, .int .i64 long, .slice ba bn bc, .slice ta tn tc, .int .i64 miss, .int .i64 good, .int .i64 fresh])[i]? = some v → w1.cell? ⟨w.heap.size, i, none⟩ = some v := fun i v h => (hb1.cell (p := ⟨w.heap.size, i, none⟩) (by simp)).trans (HC.out i v h)
  have q0 := cells 0 _ rfl
  have q1 := cells 1 _ rfl
  have q2 := cells 2 _ rfl
  have q3 := cells 3 _ rfl
  have q4 := cells 4 _ rfl
  have q5 := cells 5 _ rfl
  have q6 := cells 6 _ rfl
  have q7 := cells 7 _ rfl
  have q8 := cells 8 _ rfl
  have hr1 := hr.below hw1
  have hs1 := hs.below hw1
  have HW := Lib.hid hw1
  clear hb hb1 hw1 cells HC
  generalize hB : insideB ps nodes = bi
  have HB := Lib.hid hB
  clear hB
  cases bi with
  | false =>
    go_wp2_with (go_at_call 99; refine (must_any _ _).mono ?_; rintro e w' ⟨rfl, rfl⟩)
    go_ret
    exact ⟨ret_int (by rw [HR.out false _ _ HB.out.symm rfl rfl]; rfl), HW.out⟩
  | true =>
    go_wp2_with fail
    refine (isSorted_any _ _ _ ps _ hr1).mono ?_
    rintro e w2 ⟨rfl, k2, rfl⟩
    generalize hB2 : sortedB ps = bs
    have HB2 := Lib.hid hB2
    clear hB2
    cases bs with
    | false =>
      go_wp2_with (go_at_call 99; refine (must_any _ _).mono ?_; rintro e w' ⟨rfl, rfl⟩)
      go_ret
      exact ⟨ret_int (by rw [HR.out true false _ HB.out.symm HB2.out.symm rfl]; rfl), below_drewN HW.out _⟩
    | true =>
      go_wp2_with fail
      refine (halves_any nodes long miss good fresh pa pn pc _ _ _ ps _ (hs1.drawn k2) (hr1.drawn k2) (by omega)).mono ?_
      rintro e w3 ⟨v, rfl, ho, hb3⟩
      obtain ⟨⟨va, vc, rfl⟩, hn, hI⟩ := own_ints ho
      have hlen : (halvesL nodes ps).length = 2 * pn := by omega
      have HS := Lib.hid (single_any va (2 * pn) vc (halvesL nodes ps) (by omega) (by omega) w3 hI)
      have HW3 := Lib.hid ((below_drewN HW.out k2).trans (hb3.mono (by have := HW.out.size; exact this)))
      clear ho hn hI hlen hb3
      go_wp2_with fail
      refine HS.out.mono ?_
      rintro e w4 ⟨rfl, hb4⟩
      have HW4 := Lib.hid (HW3.out.trans (hb4.mono (by have := HW3.out.size; exact this)))
      clear hb4
      go_wp2_with (go_at_call 99; refine (must_any _ _).mono ?_; rintro e w' ⟨rfl, rfl⟩)
      go_ret
      exact ⟨ret_int (by rw [HR.out true true _ HB.out.symm HB2.out.symm rfl]; rfl), HW4.out⟩
end Go.Proofs.YtibncdkekceokaaDoor

/- slices.Clone and slices.Clip, at ints and at stations. -/
namespace Go.Proofs.YtibncdkekceokaaDoor
open Go.RowKit

theorem Tryd.info1 : (Tryd.prog.info? 3).map (fun i => (i.zero, i.size, i.bytes)) = some (some (.int .i64 0), 1, 8) := by kernel_rfl
theorem Tryd.infoSt : (Tryd.prog.info? 53).map (fun i => (i.zero, i.size, i.bytes)) = some (some (.agg #[.int .i64 0, .int .u32 0, .int .i64 0]), 3, 24) := by kernel_rfl

theorem clip_any (a : Option Addr) (n cap : Nat) (w : World) (hs : SliceOK a n cap) :
    Calls Tryd.prog 113 #[.slice a n cap] w fun e w' => e = .returned (.slice a n n) ∧ w = w' := by
  have h1 := hs.le
  go_enter Tryd.func113, Tryd.ntmps113
  go_wp2
  go_ret
  exact ⟨rfl, rfl⟩
set_option maxRecDepth 100000 in
theorem clone_any (a : Option Addr) (n cap : Nat) (xs : List Int) (w : World) (hs : SliceOK a n cap) (hr : Reads w eI a n xs) (hn : n ≤ 1000000) :
    Calls Tryd.prog 114 #[.slice a n cap] w fun e w' => ∃ a' cap', e = .returned (.slice a' n cap') ∧ w'.ownsRow w.heap.size 3 1 (.slice a' n cap') n (xs.map eI) ∧ Below w.heap.size w w' := by
  obtain ⟨i0, hi, hz0, hz1, hz2⟩ := info_parts Tryd.info1
  cases a with
  | none =>
    obtain ⟨rfl, rfl⟩ := hs.nil rfl
    have hx : xs = [] := List.eq_nil_of_length_eq_zero hr.len
    subst hx
    have hq := Lib.run_eql_slice_nil (P := Tryd.prog)
    go_enter Tryd.func114, Tryd.ntmps114
    go_wp2
    go_ret
    exact ⟨_, _, rfl, World.ownsRow_nil _ _ _ _, Below.refl _ _⟩
  | some ad =>
    obtain ⟨b, off, rfl⟩ := hs.addr _ rfl
    have hq := Lib.run_eql_slice_nil (P := Tryd.prog)
    go_enter Tryd.func114, Tryd.ntmps114
    have hb1 := (Below.refl w.heap.size w).alloc (Nat.le_refl _) (.cells #[] 3)
    have HN := (hr.below hb1).news
    have HO := World.ownsRow_made (base := w.heap.size) (e := 3) (size := 1) w #[] 0 (Nat.le_refl _) (Nat.zero_le _) rfl
    go_wp2_with (at_builtin; refine wpList_append_own _ rfl _ _ 22 rfl w.heap.size 3 i0 (.int .i64 0) 1 8 Tryd.underlying22 hi hz0 hz1 hz2 rfl (by decide) _ _ _ rfl HO ⟨b, off, none⟩ n cap (xs.map eI) rfl ?c0 HN ?c2 ?c3 ?c4 ?c5 ?_)
    case c0 => simp [hr.len]
    case c2 => intro u hu; obtain ⟨x, _, rfl⟩ := List.mem_map.1 hu; rfl
    case c3 => unfold maxLen; omega
    case c4 => omega
    case c5 => simp
    intro v' w1 hown' hgrow hnil
    obtain ⟨a', cap', hv, hok⟩ := own_slice hown'
    have R : w1.ownsRow w.heap.size 3 1 v' n (xs.map eI) := by simpa using hown'
    rw [hv] at R ⊢
    have HR := Lib.hid (⟨R, hb1.grown hgrow (by simp) (fun k hk => by simp [Value.ownBlock] at hk; omega)⟩ : _ ∧ Below w.heap.size w w1)
    clear hown' hgrow hnil hv R HO HN hr hb1
    go_wp2
    go_ret
    exact ⟨a', cap', rfl, HR.out.1, HR.out.2⟩

theorem clipSt_any (a : Option Addr) (n cap : Nat) (w : World) (hs : SliceOK a n cap) :
    Calls Tryd.prog 115 #[.slice a n cap] w fun e w' => e = .returned (.slice a n n) ∧ w = w' := by
  have h1 := hs.le
  go_enter Tryd.func115, Tryd.ntmps115
  go_wp2
  go_ret
  exact ⟨rfl, rfl⟩
set_option maxRecDepth 100000 in
theorem cloneSt_any (a : Option Addr) (n cap : Nat) (xs : List (Int × Int × Int)) (w : World) (hs : SliceOK a n cap) (hr : ReadsSt w a n xs) (hn : n ≤ 1000000) :
    Calls Tryd.prog 116 #[.slice a n cap] w fun e w' => ∃ a' cap', e = .returned (.slice a' n cap') ∧ w'.ownsRow w.heap.size 53 3 (.slice a' n cap') n (xs.flatMap eSt) ∧ Below w.heap.size w w' := by
  obtain ⟨i0, hi, hz0, hz1, hz2⟩ := info_parts Tryd.infoSt
  cases a with
  | none =>
    obtain ⟨rfl, rfl⟩ := hs.nil rfl
    have hx : xs = [] := List.eq_nil_of_length_eq_zero hr.len
    subst hx
    have hq := Lib.run_eql_slice_nil (P := Tryd.prog)
    go_enter Tryd.func116, Tryd.ntmps116
    go_wp2
    go_ret
    exact ⟨_, _, rfl, World.ownsRow_nil _ _ _ _, Below.refl _ _⟩
  | some ad =>
    obtain ⟨b, off, rfl⟩ := hs.addr _ rfl
    have hq := Lib.run_eql_slice_nil (P := Tryd.prog)
    go_enter Tryd.func116, Tryd.ntmps116
    have hb1 := (Below.refl w.heap.size w).alloc (Nat.le_refl _) (.cells #[] 53)
    have HN := (hr.below hb1).news
    have HO := World.ownsRow_made (base := w.heap.size) (e := 53) (size := 3) w #[] 0 (Nat.le_refl _) (Nat.zero_le _) rfl
    go_wp2_with (at_builtin; refine wpList_append_own _ rfl _ _ 23 rfl w.heap.size 53 i0 (.agg #[.int .i64 0, .int .u32 0, .int .i64 0]) 3 24 Tryd.underlying23 hi hz0 hz1 hz2 rfl (by decide) _ _ _ rfl HO ⟨b, off, none⟩ n cap (xs.flatMap eSt) rfl ?c0 HN ?c2 ?c3 ?c4 ?c5 ?_)
    case c0 => rw [flat3_length, hr.len]
    case c2 => intro u hu; obtain ⟨x, _, hx⟩ := List.mem_flatMap.1 hu; simp [eSt] at hx; rcases hx with rfl | rfl | rfl <;> rfl
    case c3 => unfold maxLen; omega
    case c4 => omega
    case c5 => simp
    intro v' w1 hown' hgrow hnil
    obtain ⟨a', cap', hv, hok⟩ := own_slice hown'
    have R : w1.ownsRow w.heap.size 53 3 v' n (xs.flatMap eSt) := by simpa using hown'
    rw [hv] at R ⊢
    have HR := Lib.hid (⟨R, hb1.grown hgrow (by simp) (fun k hk => by simp [Value.ownBlock] at hk; omega)⟩ : _ ∧ Below w.heap.size w w1)
    clear hown' hgrow hnil hv R HO HN hr hb1
    go_wp2
    go_ret
    exact ⟨a', cap', rfl, HR.out.1, HR.out.2⟩
end Go.Proofs.YtibncdkekceokaaDoor

/- configs.own: a config in new memory. -/
namespace Go.Proofs.YtibncdkekceokaaDoor
open Go.RowKit

/-- The pointers over which it goes. -/
def ownPtrs (b : Nat) : Array Value := #[.pointer (some ⟨b, 1, none⟩), .pointer (some ⟨b, 2, none⟩), .pointer (some ⟨b, 4, none⟩)]
/-- Between two rounds. -/
structure OwnRel (w : World) (nodes long miss good fresh : Int) (pa sa ba ta : Option Addr) (pn pc sn sc bn bc tn tc : Nat) (ps ss bs : List Int) (k : Nat) (wr : World) (pv sv bv : Value) (m1 m2 m3 : Nat) : Prop where
  box : wr.heap[w.heap.size]? = some (.cells #[.int .i64 nodes, pv, sv, .int .i64 long, bv, .slice ta tn tc, .int .i64 miss, .int .i64 good, .int .i64 fresh] 25 (0, 0))
  ptrs : wr.heap[w.heap.size + 2]? = some (.cells (ownPtrs w.heap.size) 159 (0, 0))
  res : wr.heap[w.heap.size + 1]? = some (.cells #[.int .i64 0, .slice none 0 0, .slice none 0 0, .int .i64 0, .slice none 0 0, .slice none 0 0, .int .i64 0, .int .i64 0, .int .i64 0] 25 (0, 0))
  p0 : k = 0 → pv = .slice pa pn pc
  p1 : 1 ≤ k → OwnIn wr (w.heap.size + 3) m1 3 1 pv pn (ps.map eI)
  s0 : k ≤ 1 → sv = .slice sa sn sc
  s1 : 2 ≤ k → OwnIn wr m1 m2 3 1 sv sn (ss.map eI)
  b0 : k ≤ 2 → bv = .slice ba bn bc
  b1 : 3 ≤ k → OwnIn wr m2 m3 3 1 bv bn (bs.map eI)
  o1 : w.heap.size + 3 ≤ m1
  o2 : m1 ≤ m2
  o3 : m2 ≤ m3
  o4 : m3 ≤ wr.heap.size
  below : Below w.heap.size w wr

theorem own_step0 {w wr w1 : World} {nodes long miss good fresh : Int} {pa sa ba ta : Option Addr} {pn pc sn sc bn bc tn tc : Nat} {ps ss bs : List Int} {pv sv bv : Value} {m1 m2 m3 cap : Nat} {a : Option Addr} (R : OwnRel w nodes long miss good fresh pa sa ba ta pn pc sn sc bn bc tn tc ps ss bs 0 wr pv sv bv m1 m2 m3)
    (ho : w1.ownsRow wr.heap.size 3 1 (.slice a pn cap) pn (ps.map eI)) (hb : Below wr.heap.size wr w1) :
    OwnRel w nodes long miss good fresh pa sa ba ta pn pc sn sc bn bc tn tc ps ss bs 1 (w1.setCell ⟨w.heap.size, 1, none⟩ (.slice a pn pn)) (.slice a pn pn) sv bv w1.heap.size w1.heap.size w1.heap.size := by
  have hsz := hb.size
  have o1 := R.o1
  have o2 := R.o2
  have o3 := R.o3
  have o4 := R.o4
  have keep : ∀ g, g < wr.heap.size → g ≠ w.heap.size → (w1.setCell ⟨w.heap.size, 1, none⟩ (.slice a pn pn)).heap[g]? = wr.heap[g]? := fun g hg hne => by
    rw [Below.heap_setCell _ _ _ _ hne]; exact hb.block g hg
  have hnew : OwnIn (w1.setCell ⟨w.heap.size, 1, none⟩ (.slice a pn pn)) wr.heap.size w1.heap.size 3 1 (.slice a pn pn) pn (ps.map eI) :=
    (OwnIn.of_own ho).kept fun g hg _ => Below.heap_setCell _ _ _ _ (by simp; omega)
  have hold : ∀ {lo hi : Nat} {v : Value} {n : Nat} {cs : List Value}, w.heap.size < lo → OwnIn wr lo hi 3 1 v n cs → OwnIn (w1.setCell ⟨w.heap.size, 1, none⟩ (.slice a pn pn)) lo hi 3 1 v n cs := fun hlo h =>
    h.kept fun g hg hg2 => keep g hg2 (by omega)
  constructor
  · exact heap_set_same ((hb.block _ (by omega)).trans R.box) 1 _
  · exact (keep _ (by omega) (by omega)).trans R.ptrs
  · exact (keep _ (by omega) (by omega)).trans R.res
  · intro h; omega
  · intro _; exact ⟨hnew.1.mono (by omega), hnew.2⟩
  · intro _; exact R.s0 (by omega)
  · intro h; omega
  · intro _; exact R.b0 (by omega)
  · intro h; omega
  · omega
  · exact Nat.le_refl _
  · exact Nat.le_refl _
  · simp [World.setCell]
  · exact (R.below.trans (hb.mono (by omega))).setCell (Nat.le_refl _) _

theorem own_step1 {w wr w1 : World} {nodes long miss good fresh : Int} {pa sa ba ta : Option Addr} {pn pc sn sc bn bc tn tc : Nat} {ps ss bs : List Int} {pv sv bv : Value} {m1 m2 m3 cap : Nat} {a : Option Addr} (R : OwnRel w nodes long miss good fresh pa sa ba ta pn pc sn sc bn bc tn tc ps ss bs 1 wr pv sv bv m1 m2 m3)
    (ho : w1.ownsRow wr.heap.size 3 1 (.slice a sn cap) sn (ss.map eI)) (hb : Below wr.heap.size wr w1) :
    OwnRel w nodes long miss good fresh pa sa ba ta pn pc sn sc bn bc tn tc ps ss bs 2 (w1.setCell ⟨w.heap.size, 2, none⟩ (.slice a sn sn)) pv (.slice a sn sn) bv m1 w1.heap.size w1.heap.size := by
  have hsz := hb.size
  have o1 := R.o1
  have o2 := R.o2
  have o3 := R.o3
  have o4 := R.o4
  have keep : ∀ g, g < wr.heap.size → g ≠ w.heap.size → (w1.setCell ⟨w.heap.size, 2, none⟩ (.slice a sn sn)).heap[g]? = wr.heap[g]? := fun g hg hne => by
    rw [Below.heap_setCell _ _ _ _ hne]; exact hb.block g hg
  have hnew : OwnIn (w1.setCell ⟨w.heap.size, 2, none⟩ (.slice a sn sn)) wr.heap.size w1.heap.size 3 1 (.slice a sn sn) sn (ss.map eI) :=
    (OwnIn.of_own ho).kept fun g hg _ => Below.heap_setCell _ _ _ _ (by simp; omega)
  have hold : ∀ {lo hi : Nat} {v : Value} {n : Nat} {cs : List Value}, w.heap.size < lo → OwnIn wr lo hi 3 1 v n cs → OwnIn (w1.setCell ⟨w.heap.size, 2, none⟩ (.slice a sn sn)) lo hi 3 1 v n cs := fun hlo h =>
    h.kept fun g hg hg2 => keep g hg2 (by omega)
  constructor
  · exact heap_set_same ((hb.block _ (by omega)).trans R.box) 2 _
  · exact (keep _ (by omega) (by omega)).trans R.ptrs
  · exact (keep _ (by omega) (by omega)).trans R.res
  · intro h; omega
  · intro _; exact hold (by omega) (R.p1 (by omega))
  · intro h; omega
  · intro _; exact ⟨hnew.1.mono (by omega), hnew.2⟩
  · intro _; exact R.b0 (by omega)
  · intro h; omega
  · omega
  · omega
  · exact Nat.le_refl _
  · simp [World.setCell]
  · exact (R.below.trans (hb.mono (by omega))).setCell (Nat.le_refl _) _

theorem own_step2 {w wr w1 : World} {nodes long miss good fresh : Int} {pa sa ba ta : Option Addr} {pn pc sn sc bn bc tn tc : Nat} {ps ss bs : List Int} {pv sv bv : Value} {m1 m2 m3 cap : Nat} {a : Option Addr} (R : OwnRel w nodes long miss good fresh pa sa ba ta pn pc sn sc bn bc tn tc ps ss bs 2 wr pv sv bv m1 m2 m3)
    (ho : w1.ownsRow wr.heap.size 3 1 (.slice a bn cap) bn (bs.map eI)) (hb : Below wr.heap.size wr w1) :
    OwnRel w nodes long miss good fresh pa sa ba ta pn pc sn sc bn bc tn tc ps ss bs 3 (w1.setCell ⟨w.heap.size, 4, none⟩ (.slice a bn bn)) pv sv (.slice a bn bn) m1 m2 w1.heap.size := by
  have hsz := hb.size
  have o1 := R.o1
  have o2 := R.o2
  have o3 := R.o3
  have o4 := R.o4
  have keep : ∀ g, g < wr.heap.size → g ≠ w.heap.size → (w1.setCell ⟨w.heap.size, 4, none⟩ (.slice a bn bn)).heap[g]? = wr.heap[g]? := fun g hg hne => by
    rw [Below.heap_setCell _ _ _ _ hne]; exact hb.block g hg
  have hnew : OwnIn (w1.setCell ⟨w.heap.size, 4, none⟩ (.slice a bn bn)) wr.heap.size w1.heap.size 3 1 (.slice a bn bn) bn (bs.map eI) :=
    (OwnIn.of_own ho).kept fun g hg _ => Below.heap_setCell _ _ _ _ (by simp; omega)
  have hold : ∀ {lo hi : Nat} {v : Value} {n : Nat} {cs : List Value}, w.heap.size < lo → OwnIn wr lo hi 3 1 v n cs → OwnIn (w1.setCell ⟨w.heap.size, 4, none⟩ (.slice a bn bn)) lo hi 3 1 v n cs := fun hlo h =>
    h.kept fun g hg hg2 => keep g hg2 (by omega)
  constructor
  · exact heap_set_same ((hb.block _ (by omega)).trans R.box) 4 _
  · exact (keep _ (by omega) (by omega)).trans R.ptrs
  · exact (keep _ (by omega) (by omega)).trans R.res
  · intro h; omega
  · intro _; exact hold (by omega) (R.p1 (by omega))
  · intro h; omega
  · intro _; exact hold (by omega) (R.s1 (by omega))
  · intro h; omega
  · intro _; exact ⟨hnew.1.mono (by omega), hnew.2⟩
  · omega
  · omega
  · omega
  · simp [World.setCell]
  · exact (R.below.trans (hb.mono (by omega))).setCell (Nat.le_refl _) _

set_option maxRecDepth 100000 in
set_option maxHeartbeats 4000000 in
theorem own_any (nodes long miss good fresh : Int) (pa sa ba ta : Option Addr) (pn pc sn sc bn bc tn tc : Nat) (ps ss bs : List Int) (ts : List (Int × Int × Int)) (w : World)
    (op : SliceOK pa pn pc) (os : SliceOK sa sn sc) (ob : SliceOK ba bn bc) (ot : SliceOK ta tn tc) (rp : Reads w eI pa pn ps) (rs : Reads w eI sa sn ss) (rb : Reads w eI ba bn bs) (rt : ReadsSt w ta tn ts)
    (lp : pn ≤ 1000000) (ls : sn ≤ 1000000) (lb : bn ≤ 1000000) (lt : tn ≤ 1000000) :
    Calls Tryd.prog 68 #[.agg #[.int .i64 nodes, .slice pa pn pc, .slice sa sn sc, .int .i64 long, .slice ba bn bc, .slice ta tn tc, .int .i64 miss, .int .i64 good, .int .i64 fresh]] w fun e w' => ∃ pv sv bv tv m1 m2 m3, e = .returned (.agg #[.int .i64 nodes, pv, sv, .int .i64 long, bv, tv, .int .i64 miss, .int .i64 good, .int .i64 fresh]) ∧
      OwnIn w' (w.heap.size + 3) m1 3 1 pv pn (ps.map eI) ∧ OwnIn w' m1 m2 3 1 sv sn (ss.map eI) ∧ OwnIn w' m2 m3 3 1 bv bn (bs.map eI) ∧ OwnIn w' m3 w'.heap.size 53 3 tv tn (ts.flatMap eSt) ∧
      w.heap.size + 3 ≤ m1 ∧ m1 ≤ m2 ∧ m2 ≤ m3 ∧ m3 ≤ w'.heap.size ∧ Below w.heap.size w w' := by
  go_enter Tryd.func68, Tryd.ntmps68
  go_wp2
  go_loopw [10] (fun i wr => ∃ k pv sv bv m1 m2 m3, k ≤ 3 ∧ i = .int .i64 (k : Nat) ∧ OwnRel w nodes long miss good fresh pa sa ba ta pn pc sn sc bn bc tn tc ps ss bs k wr pv sv bv m1 m2 m3) (fun i _ => 3 - (intOf i).toNat)
  case atStart =>
    refine ⟨0, .slice pa pn pc, .slice sa sn sc, .slice ba bn bc, w.heap.size + 3, w.heap.size + 3, w.heap.size + 3, by omega, rfl, ?_⟩
    constructor
    · rw [Below.heap_alloc _ _ _ (by simp; omega), Below.heap_alloc _ _ _ (by simp)]; exact heap_new _ _ _ rfl
    · exact heap_new _ _ _ (by simp)
    · rw [Below.heap_alloc _ _ _ (by simp)]; exact heap_new _ _ _ (by simp)
    · intro _; rfl
    · intro h; omega
    · intro _; rfl
    · intro h; omega
    · intro _; rfl
    · intro h; omega
    · exact Nat.le_refl _
    · exact Nat.le_refl _
    · exact Nat.le_refl _
    · simp
    · exact (((Below.refl w.heap.size w).alloc (Nat.le_refl _) _).alloc (by simp) _).alloc (by simp; omega) _
  case round =>
    obtain ⟨k, pv, sv, bv, m1, m2, m3, hk, rfl, R⟩ := hrel
    obtain rfl | rfl | rfl | rfl : k = 0 ∨ k = 1 ∨ k = 2 ∨ k = 3 := by omega
    · have hp : wr.cell? ⟨w.heap.size + 2, 0, none⟩ = some (.pointer (some ⟨w.heap.size, 1, none⟩)) := heap_cell R.ptrs 0
      have hv : wr.cell? ⟨w.heap.size, 1, none⟩ = some (.slice pa pn pc) := by rw [heap_cell R.box 1, R.p0 rfl]; rfl
      have HR := Lib.hid R
      clear R
      go_wp2_with fail
      refine (clone_any pa pn pc ps wr op (rp.below HR.out.below) lp).mono ?_
      rintro e w1 ⟨a', cap', rfl, ho, hb⟩
      have hsz : w.heap.size + 3 ≤ wr.heap.size := by have := HR.out.o1; have := HR.out.o2; have := HR.out.o3; have := HR.out.o4; omega
      have hbx := (hb.block w.heap.size (by omega)).trans HR.out.box
      have hc1 : w1.cell? ⟨w.heap.size, 1, none⟩ = some (.slice pa pn pc) := (hb.cell (p := ⟨w.heap.size, 1, none⟩) (by simp; omega)).trans hv
      have hf1 : w1.frozen? ⟨w.heap.size, 1, none⟩ = false := heap_thawed hbx 1
      have hok : SliceOK a' pn cap' := by
        obtain ⟨a2, c2, h2, h3⟩ := own_slice ho
        simp only [Value.slice.injEq, true_and] at h2
        obtain ⟨rfl, rfl⟩ := h2
        exact h3
      have HN := Lib.hid (own_step0 HR.out ho hb)
      clear hbx hp hv ho hb
      go_wp2_with (go_at_call 113; refine (clip_any _ _ _ _ hok).mono ?_; rintro e w' ⟨rfl, rfl⟩)
      go_roundw
      case rel => exact ⟨1, _, _, _, _, _, _, by omega, by go_num, HN.out⟩
      case measure => simp [intOf]
    · have hp : wr.cell? ⟨w.heap.size + 2, 1, none⟩ = some (.pointer (some ⟨w.heap.size, 2, none⟩)) := heap_cell R.ptrs 1
      have hv : wr.cell? ⟨w.heap.size, 2, none⟩ = some (.slice sa sn sc) := by rw [heap_cell R.box 2, R.s0 (by omega)]; rfl
      have HR := Lib.hid R
      clear R
      go_wp2_with fail
      refine (clone_any sa sn sc ss wr os (rs.below HR.out.below) ls).mono ?_
      rintro e w1 ⟨a', cap', rfl, ho, hb⟩
      have hsz : w.heap.size + 3 ≤ wr.heap.size := by have := HR.out.o1; have := HR.out.o2; have := HR.out.o3; have := HR.out.o4; omega
      have hbx := (hb.block w.heap.size (by omega)).trans HR.out.box
      have hc1 : w1.cell? ⟨w.heap.size, 2, none⟩ = some (.slice sa sn sc) := (hb.cell (p := ⟨w.heap.size, 2, none⟩) (by simp; omega)).trans hv
      have hf1 : w1.frozen? ⟨w.heap.size, 2, none⟩ = false := heap_thawed hbx 2
      have hok : SliceOK a' sn cap' := by
        obtain ⟨a2, c2, h2, h3⟩ := own_slice ho
        simp only [Value.slice.injEq, true_and] at h2
        obtain ⟨rfl, rfl⟩ := h2
        exact h3
      have HN := Lib.hid (own_step1 HR.out ho hb)
      clear hbx hp hv ho hb
      go_wp2_with (go_at_call 113; refine (clip_any _ _ _ _ hok).mono ?_; rintro e w' ⟨rfl, rfl⟩)
      go_roundw
      case rel => exact ⟨2, _, _, _, _, _, _, by omega, by go_num, HN.out⟩
      case measure => simp [intOf]
    · have hp : wr.cell? ⟨w.heap.size + 2, 2, none⟩ = some (.pointer (some ⟨w.heap.size, 4, none⟩)) := heap_cell R.ptrs 2
      have hv : wr.cell? ⟨w.heap.size, 4, none⟩ = some (.slice ba bn bc) := by rw [heap_cell R.box 4, R.b0 (by omega)]; rfl
      have HR := Lib.hid R
      clear R
      go_wp2_with fail
      refine (clone_any ba bn bc bs wr ob (rb.below HR.out.below) lb).mono ?_
      rintro e w1 ⟨a', cap', rfl, ho, hb⟩
      have hsz : w.heap.size + 3 ≤ wr.heap.size := by have := HR.out.o1; have := HR.out.o2; have := HR.out.o3; have := HR.out.o4; omega
      have hbx := (hb.block w.heap.size (by omega)).trans HR.out.box
      have hc1 : w1.cell? ⟨w.heap.size, 4, none⟩ = some (.slice ba bn bc) := (hb.cell (p := ⟨w.heap.size, 4, none⟩) (by simp; omega)).trans hv
      have hf1 : w1.frozen? ⟨w.heap.size, 4, none⟩ = false := heap_thawed hbx 4
      have hok : SliceOK a' bn cap' := by
        obtain ⟨a2, c2, h2, h3⟩ := own_slice ho
        simp only [Value.slice.injEq, true_and] at h2
        obtain ⟨rfl, rfl⟩ := h2
        exact h3
      have HN := Lib.hid (own_step2 HR.out ho hb)
      clear hbx hp hv ho hb
      go_wp2_with (go_at_call 113; refine (clip_any _ _ _ _ hok).mono ?_; rintro e w' ⟨rfl, rfl⟩)
      go_roundw
      case rel => exact ⟨3, _, _, _, _, _, _, by omega, by go_num, HN.out⟩
      case measure => simp [intOf]
    · have hv : wr.cell? ⟨w.heap.size, 5, none⟩ = some (.slice ta tn tc) := heap_cell R.box 5
      have HR := Lib.hid R
      clear R
      go_wp2_with fail
      refine (cloneSt_any ta tn tc ts wr ot (rt.below HR.out.below) lt).mono ?_
      rintro e w1 ⟨a', cap', rfl, ho, hb⟩
      have hsz : w.heap.size + 3 ≤ wr.heap.size := by have := HR.out.o1; have := HR.out.o2; have := HR.out.o3; have := HR.out.o4; omega
      have hbx := (hb.block w.heap.size (by omega)).trans HR.out.box
      have hrs := (hb.block (w.heap.size + 1) (by omega)).trans HR.out.res
      obtain ⟨ap, rfl, _⟩ := (HR.out.p1 (by omega)).1.value
      obtain ⟨as_, rfl, _⟩ := (HR.out.s1 (by omega)).1.value
      obtain ⟨ab, rfl, _⟩ := (HR.out.b1 (by omega)).1.value
      have c0 := heap_cell hbx 0
      have r0 := heap_cell hrs 0
      have f0 := heap_thawed hrs 0
      have c1 := heap_cell hbx 1
      have r1 := heap_cell hrs 1
      have f1 := heap_thawed hrs 1
      have c2 := heap_cell hbx 2
      have r2 := heap_cell hrs 2
      have f2 := heap_thawed hrs 2
      have c3 := heap_cell hbx 3
      have r3 := heap_cell hrs 3
      have f3 := heap_thawed hrs 3
      have c4 := heap_cell hbx 4
      have r4 := heap_cell hrs 4
      have f4 := heap_thawed hrs 4
      have c5 := heap_cell hbx 5
      have r5 := heap_cell hrs 5
      have f5 := heap_thawed hrs 5
      have c6 := heap_cell hbx 6
      have r6 := heap_cell hrs 6
      have f6 := heap_thawed hrs 6
      have c7 := heap_cell hbx 7
      have r7 := heap_cell hrs 7
      have f7 := heap_thawed hrs 7
      have c8 := heap_cell hbx 8
      have r8 := heap_cell hrs 8
      have f8 := heap_thawed hrs 8
      have g5 := heap_thawed hbx 5
      have hok : SliceOK a' tn cap' := by
        obtain ⟨a2, c2, h2, h3⟩ := own_slice ho
        simp only [Value.slice.injEq, true_and] at h2
        obtain ⟨rfl, rfl⟩ := h2
        exact h3
      simp only [List.getElem?_toArray, List.getElem?_cons_zero, List.getElem?_cons_succ] at c0 c1 c2 c3 c4 c5 c6 c7 c8 r0 r1 r2 r3 r4 r5 r6 r7 r8
      have HO := Lib.hid ho
      have HB := Lib.hid hb
      have H1 := Lib.hid hbx
      have H2 := Lib.hid hrs
      clear hbx hrs hv ho hb
      go_wp2_with (go_at_call 115; refine (clipSt_any _ _ _ _ hok).mono ?_; rintro e w' ⟨rfl, rfl⟩)
      have e0 := ((Below.heap_setCell w1 ⟨w.heap.size, 5, none⟩ (.slice a' tn tn) (w.heap.size + 1) (by simp)).trans H2.out)
      have e1 := heap_set_same e0 0 (.int .i64 nodes)
      have e2 := heap_set_same e1 1 (.slice ap pn pn)
      have e3 := heap_set_same e2 2 (.slice as_ sn sn)
      have e4 := heap_set_same e3 3 (.int .i64 long)
      have e5 := heap_set_same e4 4 (.slice ab bn bn)
      have e6 := heap_set_same e5 5 (.slice a' tn tn)
      have e7 := heap_set_same e6 6 (.int .i64 miss)
      have e8 := heap_set_same e7 7 (.int .i64 good)
      have e9 := heap_set_same e8 8 (.int .i64 fresh)
      have hk : ∀ g, w.heap.size + 2 ≤ g → ((((((((((w1.setCell ⟨w.heap.size, 5, none⟩ (.slice a' tn tn)).setCell ⟨w.heap.size + 1, 0, none⟩ (.int .i64 nodes)).setCell ⟨w.heap.size + 1, 1, none⟩ (.slice ap pn pn)).setCell ⟨w.heap.size + 1, 2, none⟩ (.slice as_ sn sn)).setCell ⟨w.heap.size + 1, 3, none⟩ (.int .i64 long)).setCell ⟨w.heap.size + 1, 4, none⟩ (.slice ab bn bn)).setCell ⟨w.heap.size + 1, 5, none⟩ (.slice a' tn tn)).setCell ⟨w.heap.size + 1, 6, none⟩ (.int .i64 miss)).setCell ⟨w.heap.size + 1, 7, none⟩ (.int .i64 good)).setCell ⟨w.heap.size + 1, 8, none⟩ (.int .i64 fresh)).heap[g]? = w1.heap[g]? := fun g hg => by
        rw [Below.heap_setCell _ _ _ _ (by simp; omega), Below.heap_setCell _ _ _ _ (by simp; omega), Below.heap_setCell _ _ _ _ (by simp; omega), Below.heap_setCell _ _ _ _ (by simp; omega), Below.heap_setCell _ _ _ _ (by simp; omega), Below.heap_setCell _ _ _ _ (by simp; omega), Below.heap_setCell _ _ _ _ (by simp; omega), Below.heap_setCell _ _ _ _ (by simp; omega), Below.heap_setCell _ _ _ _ (by simp; omega), Below.heap_setCell _ _ _ _ (by simp; omega)]
      have hbl : Below w.heap.size w ((((((((((w1.setCell ⟨w.heap.size, 5, none⟩ (.slice a' tn tn)).setCell ⟨w.heap.size + 1, 0, none⟩ (.int .i64 nodes)).setCell ⟨w.heap.size + 1, 1, none⟩ (.slice ap pn pn)).setCell ⟨w.heap.size + 1, 2, none⟩ (.slice as_ sn sn)).setCell ⟨w.heap.size + 1, 3, none⟩ (.int .i64 long)).setCell ⟨w.heap.size + 1, 4, none⟩ (.slice ab bn bn)).setCell ⟨w.heap.size + 1, 5, none⟩ (.slice a' tn tn)).setCell ⟨w.heap.size + 1, 6, none⟩ (.int .i64 miss)).setCell ⟨w.heap.size + 1, 7, none⟩ (.int .i64 good)).setCell ⟨w.heap.size + 1, 8, none⟩ (.int .i64 fresh)) :=
        ((((((((((HR.out.below.trans (HB.out.mono (by omega))).setCell (Nat.le_refl _) _).setCell (Nat.le_succ _) _).setCell (Nat.le_succ _) _).setCell (Nat.le_succ _) _).setCell (Nat.le_succ _) _).setCell (Nat.le_succ _) _).setCell (Nat.le_succ _) _).setCell (Nat.le_succ _) _).setCell (Nat.le_succ _) _).setCell (Nat.le_succ _) _
      have hzz : ((((((((((w1.setCell ⟨w.heap.size, 5, none⟩ (.slice a' tn tn)).setCell ⟨w.heap.size + 1, 0, none⟩ (.int .i64 nodes)).setCell ⟨w.heap.size + 1, 1, none⟩ (.slice ap pn pn)).setCell ⟨w.heap.size + 1, 2, none⟩ (.slice as_ sn sn)).setCell ⟨w.heap.size + 1, 3, none⟩ (.int .i64 long)).setCell ⟨w.heap.size + 1, 4, none⟩ (.slice ab bn bn)).setCell ⟨w.heap.size + 1, 5, none⟩ (.slice a' tn tn)).setCell ⟨w.heap.size + 1, 6, none⟩ (.int .i64 miss)).setCell ⟨w.heap.size + 1, 7, none⟩ (.int .i64 good)).setCell ⟨w.heap.size + 1, 8, none⟩ (.int .i64 fresh)).heap.size = w1.heap.size := by simp [World.setCell]
      generalize ((((((((((w1.setCell ⟨w.heap.size, 5, none⟩ (.slice a' tn tn)).setCell ⟨w.heap.size + 1, 0, none⟩ (.int .i64 nodes)).setCell ⟨w.heap.size + 1, 1, none⟩ (.slice ap pn pn)).setCell ⟨w.heap.size + 1, 2, none⟩ (.slice as_ sn sn)).setCell ⟨w.heap.size + 1, 3, none⟩ (.int .i64 long)).setCell ⟨w.heap.size + 1, 4, none⟩ (.slice ab bn bn)).setCell ⟨w.heap.size + 1, 5, none⟩ (.slice a' tn tn)).setCell ⟨w.heap.size + 1, 6, none⟩ (.int .i64 miss)).setCell ⟨w.heap.size + 1, 7, none⟩ (.int .i64 good)).setCell ⟨w.heap.size + 1, 8, none⟩ (.int .i64 fresh)) = W9 at e9 hk hbl hzz ⊢
      clear e0 e1 e2 e3 e4 e5 e6 e7 e8 c0 c1 c2 c3 c4 c5 c6 c7 c8 r0 r1 r2 r3 r4 r5 r6 r7 r8 f0 f1 f2 f3 f4 f5 f6 f7 f8
      have q0 := heap_cell e9 0
      have q1 := heap_cell e9 1
      have q2 := heap_cell e9 2
      have q3 := heap_cell e9 3
      have q4 := heap_cell e9 4
      have q5 := heap_cell e9 5
      have q6 := heap_cell e9 6
      have q7 := heap_cell e9 7
      have q8 := heap_cell e9 8
      simp only [List.setIfInBounds_toArray, List.set_cons_zero, List.set_cons_succ, List.getElem?_toArray, List.getElem?_cons_zero, List.getElem?_cons_succ] at q0 q1 q2 q3 q4 q5 q6 q7 q8
      refine bodyPost_ret (v := .agg #[.int .i64 nodes, .slice ap pn pn, .slice as_ sn sn, .int .i64 long, .slice ab bn bn, .slice a' tn tn, .int .i64 miss, .int .i64 good, .int .i64 fresh]) (by simp [results, Tryd.results68, go_sem, q0, q1, q2, q3, q4, q5, q6, q7, q8]) rfl ?_
      have hwr := HB.out.size
      have hold : ∀ {lo hi e size : Nat} {v : Value} {n : Nat} {cs : List Value}, w.heap.size + 2 ≤ lo → OwnIn wr lo hi e size v n cs → OwnIn W9 lo hi e size v n cs := fun hlo h =>
        (h.below HB.out).kept fun g hg _ => hk g (by omega)
      have hm := HR.out
      refine ⟨_, _, _, _, m1, m2, m3, rfl, hold (by omega) (hm.p1 (by omega)), hold (by have := hm.o1; omega) (hm.s1 (by omega)), hold (by have := hm.o1; have := hm.o2; omega) (hm.b1 (by omega)), ?_, hm.o1, hm.o2, hm.o3, by have := hm.o4; omega, hbl⟩
      have hn := OwnIn.of_own HO.out
      rw [hzz]
      exact OwnIn.kept (w := w1) ⟨hn.1.mono hm.o4, hn.2⟩ fun g hg _ => hk g (by have := hm.o1; have := hm.o2; have := hm.o3; omega)
end Go.Proofs.YtibncdkekceokaaDoor

/- slices.Repeat of one number: a new slice that holds it so many times. -/
namespace Go.Proofs.YtibncdkekceokaaDoor
open Go.RowKit Go.Shelf Go.Deep

theorem Tryd.infoR : (Tryd.prog.info? 3).map (fun i => (i.zero, i.size, i.bytes)) = some (some (.int .i64 0), 1, 8) := by kernel_rfl
theorem Tryd.sizeR : (Tryd.prog.info? 3).map (·.size) = some 1 := by kernel_rfl

/-- What the new slice's cells are when m are filled. -/
def filled (x : Int) (c m : Nat) : List Value := List.replicate m (eI x) ++ List.replicate (c - m) (.int .i64 0)

theorem made_filled (x : Int) (c : Nat) : madeCells #[.int .i64 0] c = (filled x c 0).toArray := by
  apply Array.ext'
  simp [toList_madeCells_one, filled]
theorem filled_splice (x : Int) (c m k : Nat) : splice (filled x c m) m (List.replicate k (eI x)) = filled x c (m + k) := by
  unfold splice filled
  rw [List.take_left' (by simp), List.length_replicate, List.drop_append, List.length_replicate]
  rw [List.drop_eq_nil_of_le (by simp), List.drop_replicate, ← List.append_assoc, List.replicate_append_replicate]
  simp
  omega
theorem filled_cell {w : World} {g c m : Nat} {x : Int} {e : TypeId} (h : w.heap[g]? = some (.cells (filled x c m).toArray e (0, 0))) (k : Nat) (hk : k ≤ m) : ∀ j v, (List.replicate k (eI x))[j]? = some v → w.cell? ((⟨g, 0, none⟩ : Addr).add j) = some v := by
  intro j v hv
  have e1 : (⟨g, 0, none⟩ : Addr).add j = ⟨g, j, none⟩ := by unfold Addr.add; split <;> simp_all
  have hj : j < k := by
    rcases Nat.lt_or_ge j k with h | h
    · exact h
    · rw [List.getElem?_eq_none (by simpa using h)] at hv; cases hv
  rw [e1, heap_cell h, ← hv]
  simp [filled, List.getElem?_append_left, hj, show j < m by omega]
theorem filled_length (x : Int) (c m : Nat) (h : m ≤ c) : (filled x c m).length = c := by simp [filled]; omega
theorem filled_all (x : Int) (c : Nat) : filled x c c = List.replicate c (eI x) := by simp [filled]

/-- A copy of k of the numbers to the place behind them. -/
theorem copy_filled (w0 W : World) (g m c dLen dCap sLen sCap gs : Nat) (x : Int) (k : Nat) (hg : W.heap[g]? = some (.cells (filled x c m).toArray 3 (0, 0))) (hk : k = min sLen dLen)
    (hs : ∀ j v, (List.replicate k (eI x))[j]? = some v → W.cell? ((⟨gs, 0, none⟩ : Addr).add j) = some v) (hc : m + k ≤ c) (hb : Below w0.heap.size w0 W) (hB : w0.heap.size ≤ g) :
    ∃ w1, (Builtin.copy_ #[22, 22] 3 #[.slice (some ⟨g, m, none⟩) dLen dCap, .slice (some ⟨gs, 0, none⟩) sLen sCap]).run Tryd.prog W = .ok (.int .i64 k) w1 ∧
      w1.heap[g]? = some (.cells (filled x c (m + k)).toArray 3 (0, 0)) ∧ Below w0.heap.size w0 w1 := by
  have hl := filled_length x c m (by omega)
  have hrun := run_copy_row (P := Tryd.prog) W 22 22 3 3 g m dLen dCap ⟨gs, 0, none⟩ sLen sCap (filled x c m).toArray 3 (List.replicate k (eI x)) Tryd.underlying22 Tryd.sizeR hg (by rw [List.length_replicate, hk]) hs (by simpa [hl] using hc) (fun v hv => by rw [List.eq_of_mem_replicate hv]; rfl)
  rw [List.length_replicate] at hrun
  refine ⟨_, hrun, ?_, below_setRow hb hB _⟩
  rw [setRow_heap _ _ _ _ _ _ hg, ← filled_splice]
  simp [splice]

set_option maxRecDepth 100000 in
set_option maxHeartbeats 1000000 in
theorem repeat_any (gx : Nat) (x : Int) (c : Nat) (w : World) (hx : w.cell? ⟨gx, 0, none⟩ = some (.int .i64 x)) (h1 : 1 ≤ c) (h2 : c ≤ 1000) :
    Calls Tryd.prog 69 #[.slice (some ⟨gx, 0, none⟩) 1 1, .int .i64 c] w fun e w' => e = .returned (.slice (some ⟨w.heap.size, 0, none⟩) c c) ∧
      w'.heap[w.heap.size]? = some (.cells (List.replicate c (eI x)).toArray 3 (0, 0)) ∧ w.heap.size + 1 ≤ w'.heap.size ∧ Below w.heap.size w w' := by
  have hm := Tryd.bits_Mul 1 c (by omega) (by omega) w
  have e1 : (1 * c) / 18446744073709551616 = 0 := by omega
  have e2 : (1 * c) % 18446744073709551616 = c := by omega
  rw [e1, e2] at hm
  have HM := Lib.hid (calls_flip hm)
  clear hm e1 e2
  have hmk := fun wx => run_make_row' (P := Tryd.prog) 22 3 (.int .i64 0) 8 Tryd.underlying22 Tryd.infoR rfl .i64 .i64 c (by omega) (by omega) wx
  go_enter Tryd.func69, Tryd.ntmps69
  go_wp2_with fail
  refine HM.out.mono ?_
  rintro e w' ⟨rfl, rfl⟩
  have hz0 : (w.alloc (.cells (madeCells #[.int .i64 0] c) 3)).heap[w.heap.size]? = some (.cells (filled x c 0).toArray 3 (0, 0)) := by rw [made_filled x]; exact heap_new _ _ _ rfl
  have hb0 := (Below.refl w.heap.size w).alloc (Nat.le_refl _) (.cells (madeCells #[.int .i64 0] c) 3)
  have hx1 : ∀ j v, (List.replicate 1 (eI x))[j]? = some v → (w.alloc (.cells (madeCells #[.int .i64 0] c) 3)).cell? ((⟨gx, 0, none⟩ : Addr).add j) = some v := by
    intro j v hv
    have hj : j = 0 := by
      rcases j with _ | j
      · rfl
      · simp at hv
    subst hj
    simp at hv
    subst hv
    have e1 : (⟨gx, 0, none⟩ : Addr).add 0 = ⟨gx, 0, none⟩ := by simp [Addr.add]
    rw [e1]
    exact (hb0.cell (World.block_lt_of_cell? w _ hx)).trans hx
  obtain ⟨w1, hrun, hz2, hb1⟩ := copy_filled w (w.alloc (.cells (madeCells #[.int .i64 0] c) 3)) w.heap.size 0 c c c 1 1 gx x 1 hz0 (by show 1 = min 1 c; omega) hx1 (by omega) hb0 (Nat.le_refl _)
  rw [Nat.zero_add] at hz2
  have hsz : w.heap.size < w1.heap.size := (Array.getElem?_eq_some_iff.1 hz2).1
  have HS := Lib.hid (⟨hz2, hsz, hb1⟩ : _ ∧ w.heap.size < w1.heap.size ∧ Below w.heap.size w w1)
  clear hz2 hb1 hz0 hb0 hx1 hx HM
  go_wp2
  clear hmk
  go_loopw [8] (fun i wr => ∃ m : Nat, 1 ≤ m ∧ m ≤ c ∧ i = .int .i64 m ∧ Hid (wr.heap[w.heap.size]? = some (.cells (filled x c m).toArray 3 (0, 0)) ∧ Below w.heap.size w wr)) (fun i _ => c - (intOf i).toNat)
  case atStart => exact ⟨1, by omega, by omega, by go_num, HS.out.1, HS.out.2.2⟩
  case round =>
    obtain ⟨m, hm1, hm2, rfl, hR⟩ := hrel
    by_cases hlt : m < c
    · have hz := hR.out.1
      have hb := hR.out.2
      obtain ⟨k, hk⟩ : ∃ k, k = min m (c - m) := ⟨_, rfl⟩
      have hk1 : 0 < k := by omega
      have hk2 : m + k ≤ c := by omega
      have hcm : ¬ c = m := by omega
      obtain ⟨w4, hrun4, hg4, hb4⟩ := copy_filled w wr.drew w.heap.size m c (c - m) (c - m) m c w.heap.size x k hz hk (filled_cell hz k (by omega)) hk2 hb.drew (Nat.le_refl _)
      have HX := Lib.hid (⟨hg4, hb4⟩ : _ ∧ Below w.heap.size w w4)
      clear hg4 hb4 hk hz hb hR
      go_wp2
      go_region
      go_wp2
      go_roundw
      case rel => exact ⟨m + k, by omega, by omega, by go_num, HX.out⟩
      case measure => simp [intOf]; omega
    · go_wp2
      go_ret
      have e : m = c := by omega
      subst e
      have hR2 := hR.out
      rw [filled_all] at hR2
      exact ⟨rfl, hR2.1, (Array.getElem?_eq_some_iff.1 hR2.1).1, hR2.2⟩
end Go.Proofs.YtibncdkekceokaaDoor

/- configs.New: the rules, one by one. -/
namespace Go.Proofs.YtibncdkekceokaaDoor
open Go.RowKit

theorem rules_any (w : World) :
    Calls Tryd.prog 67 #[] w fun e w' => e = .returned (.slice (some ⟨w.heap.size, 0, none⟩) 10 10) ∧ w.alloc (.cells #[.func (.func 95) #[] #[], .func (.func 97) #[] #[], .func (.func 98) #[] #[], .func (.func 103) #[] #[], .func (.func 104) #[] #[], .func (.func 106) #[] #[], .func (.func 107) #[] #[], .func (.func 110) #[] #[], .func (.func 111) #[] #[], .func (.func 112) #[] #[]] 130) = w' := by
  go_enter Tryd.func67, Tryd.ntmps67
  go_wp2
  go_ret
  exact ⟨rfl, rfl⟩
end Go.Proofs.YtibncdkekceokaaDoor

/- A config as plain data; what is wrong with it, rule by rule. -/
namespace Go.Proofs.YtibncdkekceokaaDoor
open Go.RowKit

/-- A config's numbers and lists (of a station: at which node, safe, hold). -/
structure Cfg where
  nodes : Int
  long : Int
  miss : Int
  good : Int
  fresh : Int
  ps : List Int
  ss : List Int
  bs : List Int
  ts : List (Int × Int × Int)

/-- What is wrong by a rule. -/
def Cfg.rule (c : Cfg) : Nat → Int
  | 0 => withinE c.nodes 4 16
  | 1 => withinE c.ps.length 2 8
  | 2 => mustE (rule3B c.nodes c.ps)
  | 3 => withinE c.ss.length 1 16
  | 4 => mustE (slotsB c.ss c.ps.length)
  | 5 => withinE c.long (max (3 * c.nodes + 1) (c.nodes + 116)) 4096
  | 6 => firstE [mustE ((c.bs.length : Int) == c.nodes), eachE c.bs 0 4096]
  | 7 => withinE c.ts.length 0 8
  | 8 => stationsE c.nodes c.ts
  | 9 => eachE [c.miss, c.good, c.fresh] 1 100
  | _ => 0
/-- What is wrong first. -/
def Cfg.err (c : Cfg) : Int := firstE ((List.range 10).map c.rule)

theorem firstE_range' (f : Nat → Int) (k : Nat) : ∀ n s, s ≤ k → k < s + n → (∀ j, s ≤ j → j < k → f j = 0) → f k ≠ 0 → firstE ((List.range' s n).map f) = f k := by
  intro n
  induction n with
  | zero => intro s h1 h2; omega
  | succ n ih =>
    intro s h1 h2 h3 h4
    rw [List.range'_succ, List.map_cons, firstE]
    by_cases e : s = k
    · subst e
      rw [if_neg h4]
    · rw [if_pos (h3 s (Nat.le_refl _) (by omega))]
      exact ih (s + 1) (by omega) (by omega) (fun j hj hk => h3 j (by omega) hk) h4
theorem firstE_zero (f : Nat → Int) : ∀ n s, (∀ j, s ≤ j → j < s + n → f j = 0) → firstE ((List.range' s n).map f) = 0 := by
  intro n
  induction n with
  | zero => intro s _; rfl
  | succ n ih =>
    intro s h
    rw [List.range'_succ, List.map_cons, firstE, if_pos (h s (Nat.le_refl _) (by omega))]
    exact ih (s + 1) fun j hj hk => h j (by omega) (by omega)
theorem Cfg.err_at (c : Cfg) (k : Nat) (hk : k < 10) (h : ∀ j, j < k → c.rule j = 0) (hne : c.rule k ≠ 0) : c.err = c.rule k := by
  unfold Cfg.err
  rw [List.range_eq_range']
  exact firstE_range' c.rule k 10 0 (Nat.zero_le _) (by omega) (fun j _ hj => h j hj) hne
theorem Cfg.err_none (c : Cfg) (h : ∀ j, j < 10 → c.rule j = 0) : c.err = 0 := by
  unfold Cfg.err
  rw [List.range_eq_range']
  exact firstE_zero c.rule 10 0 fun j _ hj => h j (by omega)

theorem within_ok {x lo hi : Int} (h : withinE x lo hi = 0) : lo ≤ x ∧ x ≤ hi := by
  unfold withinE at h
  split at h
  · cases h
  · split at h
    · cases h
    · omega
theorem must_ok {b : Bool} (h : mustE b = 0) : b = true := by
  cases b
  · cases h
  · rfl

/-- A config's argument reads as it. -/
structure CfgIn (w : World) (nodes long miss good fresh : Int) (pa sa ba ta : Option Addr) (pn pc sn sc bn bc tn tc : Nat) (ps ss bs : List Int) (ts : List (Int × Int × Int)) : Prop where
  op : SliceOK pa pn pc
  os : SliceOK sa sn sc
  ob : SliceOK ba bn bc
  ot : SliceOK ta tn tc
  rp : Reads w eI pa pn ps
  rs : Reads w eI sa sn ss
  rb : Reads w eI ba bn bs
  rt : ReadsSt w ta tn ts
theorem CfgIn.below {w w' : World} {nodes long miss good fresh : Int} {pa sa ba ta : Option Addr} {pn pc sn sc bn bc tn tc : Nat} {ps ss bs : List Int} {ts : List (Int × Int × Int)} (h : CfgIn w nodes long miss good fresh pa sa ba ta pn pc sn sc bn bc tn tc ps ss bs ts) (hb : Below w.heap.size w w') : CfgIn w' nodes long miss good fresh pa sa ba ta pn pc sn sc bn bc tn tc ps ss bs ts :=
  ⟨h.op, h.os, h.ob, h.ot, h.rp.below hb, h.rs.below hb, h.rb.below hb, h.rt.below hb⟩

/-- The pairs of the nodes when so many halves have been gone through. -/
def pairsUp (n : Nat) (hs : List Int) : Nat → List Int
  | 0 => List.replicate n (-1)
  | k + 1 => (pairsUp n hs k).set (hs.getD k 0).toNat ((k / 2 : Nat) : Int)
theorem pairsUp_length (n : Nat) (hs : List Int) (k : Nat) : (pairsUp n hs k).length = n := by
  induction k with
  | zero => simp [pairsUp]
  | succ k ih => simp [pairsUp, ih]
/-- The pairs of the nodes of a config. -/
def Cfg.pairs (c : Cfg) : List Int := pairsUp c.nodes.toNat (halvesL c.nodes c.ps) (2 * c.ps.length)

/-- A net of a config, in memory: all of it lies in blocks from lo on, below hi. -/
def NetAt (w : World) (lo hi b : Nat) (c : Cfg) : Prop :=
  ∃ pv sv bv tv qv, w.heap[b]? = some (.cells #[.int .i64 c.nodes, pv, sv, .int .i64 c.long, bv, tv, .int .i64 c.miss, .int .i64 c.good, .int .i64 c.fresh, qv] 56 (0, 0)) ∧ lo ≤ b ∧ b < hi ∧ hi ≤ w.heap.size ∧
    OwnIn w lo hi 3 1 pv c.ps.length (c.ps.map eI) ∧ OwnIn w lo hi 3 1 sv c.ss.length (c.ss.map eI) ∧ OwnIn w lo hi 3 1 bv c.bs.length (c.bs.map eI) ∧
    OwnIn w lo hi 53 3 tv c.ts.length (c.ts.flatMap eSt) ∧ OwnIn w lo hi 3 1 qv c.nodes.toNat (c.pairs.map eI)
theorem OwnIn.in_block {w w' : World} {lo hi : Nat} {e : TypeId} {size : Nat} {v : Value} {n : Nat} {cs : List Value} (h : OwnIn w lo hi e size v n cs) (hk : ∀ g, lo ≤ g → g < hi → w'.heap[g]? = w.heap[g]?) : OwnIn w' lo hi e size v n cs := by
  refine ⟨?_, h.2⟩
  rcases h.1 with h1 | ⟨g, cur, rfl, hb, hg, rest⟩
  · exact .inl h1
  · exact .inr ⟨g, cur, rfl, hb, (hk g hb (h.2 g rfl)).trans hg, rest⟩
theorem NetAt.kept {w w' : World} {lo hi b : Nat} {c : Cfg} (h : NetAt w lo hi b c) (hk : ∀ g, lo ≤ g → g < hi → w'.heap[g]? = w.heap[g]?) (hs : w.heap.size ≤ w'.heap.size) : NetAt w' lo hi b c := by
  obtain ⟨pv, sv, bv, tv, qv, h1, h2, h3, h4, p, s, bb, t, q⟩ := h
  exact ⟨pv, sv, bv, tv, qv, (hk b h2 h3).trans h1, h2, h3, by omega, p.in_block hk, s.in_block hk, bb.in_block hk, t.in_block hk, q.in_block hk⟩
theorem NetAt.below {w w' : World} {lo hi b : Nat} {c : Cfg} (h : NetAt w lo hi b c) (hb : Below w.heap.size w w') : NetAt w' lo hi b c := by
  have h4 := h
  obtain ⟨_, _, _, _, _, _, _, _, h4, _⟩ := h4
  exact h.kept (fun g _ hg => hb.block g (by omega)) hb.size
end Go.Proofs.YtibncdkekceokaaDoor

/- configs.own over a box that holds the config; the net that is laid of it. -/
namespace Go.Proofs.YtibncdkekceokaaDoor
open Go.RowKit

/-- A config's own lists, in blocks from lo on, below hi. -/
def OwnAt (w : World) (lo hi : Nat) (c : Cfg) (ap as_ ab at_ : Option Addr) : Prop :=
  hi ≤ w.heap.size ∧ OwnIn w lo hi 3 1 (.slice ap c.ps.length c.ps.length) c.ps.length (c.ps.map eI) ∧ OwnIn w lo hi 3 1 (.slice as_ c.ss.length c.ss.length) c.ss.length (c.ss.map eI) ∧
    OwnIn w lo hi 3 1 (.slice ab c.bs.length c.bs.length) c.bs.length (c.bs.map eI) ∧ OwnIn w lo hi 53 3 (.slice at_ c.ts.length c.ts.length) c.ts.length (c.ts.flatMap eSt)
theorem OwnIn.wide {w : World} {lo hi lo' hi' : Nat} {e : TypeId} {size : Nat} {v : Value} {n : Nat} {cs : List Value} (h : OwnIn w lo hi e size v n cs) (h1 : lo' ≤ lo) (h2 : hi ≤ hi') : OwnIn w lo' hi' e size v n cs :=
  ⟨h.1.mono h1, fun g hg => Nat.lt_of_lt_of_le (h.2 g hg) h2⟩
theorem OwnAt.in_block {w w' : World} {lo hi : Nat} {c : Cfg} {ap as_ ab at_ : Option Addr} (h : OwnAt w lo hi c ap as_ ab at_) (hk : ∀ g, lo ≤ g → g < hi → w'.heap[g]? = w.heap[g]?) (hs : w.heap.size ≤ w'.heap.size) : OwnAt w' lo hi c ap as_ ab at_ :=
  ⟨Nat.le_trans h.1 hs, h.2.1.in_block hk, h.2.2.1.in_block hk, h.2.2.2.1.in_block hk, h.2.2.2.2.in_block hk⟩
theorem OwnAt.below {w w' : World} {lo hi : Nat} {c : Cfg} {ap as_ ab at_ : Option Addr} (h : OwnAt w lo hi c ap as_ ab at_) (hb : Below w.heap.size w w') : OwnAt w' lo hi c ap as_ ab at_ :=
  h.in_block (fun g _ hg => hb.block g (Nat.lt_of_lt_of_le hg h.1)) hb.size

theorem own_box {nodes long miss good fresh : Int} {pa sa ba ta : Option Addr} {pn pc sn sc bn bc tn tc : Nat} {ps ss bs : List Int} {ts : List (Int × Int × Int)} {c : Cfg} (hc : c = ⟨nodes, long, miss, good, fresh, ps, ss, bs, ts⟩) {w : World} (C : CfgIn w nodes long miss good fresh pa sa ba ta pn pc sn sc bn bc tn tc ps ss bs ts) {W : World} {g : Nat} (hW : Below w.heap.size w W)
    (hB : W.heap[g]? = some (.cells #[.int .i64 nodes, .slice pa pn pc, .slice sa sn sc, .int .i64 long, .slice ba bn bc, .slice ta tn tc, .int .i64 miss, .int .i64 good, .int .i64 fresh] 25 (0, 0)))
    (lp : pn ≤ 1000000) (ls : sn ≤ 1000000) (lb : bn ≤ 1000000) (lt : tn ≤ 1000000) :
    Calls Tryd.prog 68 #[.agg #[.int .i64 nodes, .slice pa pn pc, .slice sa sn sc, .int .i64 long, .slice ba bn bc, .slice ta tn tc, .int .i64 miss, .int .i64 good, .int .i64 fresh]] W fun e w1 => ∃ ap as_ ab at_, e = .returned (.agg #[.int .i64 nodes, .slice ap pn pn, .slice as_ sn sn, .int .i64 long, .slice ab bn bn, .slice at_ tn tn, .int .i64 miss, .int .i64 good, .int .i64 fresh]) ∧
      w1.cell? ⟨g, 0, none⟩ = some (.int .i64 nodes) ∧ w1.cell? ⟨g, 1, none⟩ = some (.slice pa pn pc) ∧ w1.cell? ⟨g, 2, none⟩ = some (.slice sa sn sc) ∧ w1.cell? ⟨g, 3, none⟩ = some (.int .i64 long) ∧ w1.cell? ⟨g, 4, none⟩ = some (.slice ba bn bc) ∧ w1.cell? ⟨g, 5, none⟩ = some (.slice ta tn tc) ∧ w1.cell? ⟨g, 6, none⟩ = some (.int .i64 miss) ∧ w1.cell? ⟨g, 7, none⟩ = some (.int .i64 good) ∧ w1.cell? ⟨g, 8, none⟩ = some (.int .i64 fresh) ∧
      Hid (OwnAt w1 W.heap.size w1.heap.size c ap as_ ab at_ ∧ Below W.heap.size W w1) := by
  have CW := C.below hW
  subst hc
  refine (own_any nodes long miss good fresh pa sa ba ta pn pc sn sc bn bc tn tc ps ss bs ts W CW.op CW.os CW.ob CW.ot CW.rp CW.rs CW.rb CW.rt lp ls lb lt).mono ?_
  rintro e w1 ⟨pv, sv, bv, tv, m1, m2, m3, rfl, h1, h2, h3, h4, o1, o2, o3, o4, hb⟩
  obtain ⟨ap, rfl, _⟩ := h1.1.value
  obtain ⟨as_, rfl, _⟩ := h2.1.value
  obtain ⟨ab, rfl, _⟩ := h3.1.value
  obtain ⟨at_, rfl, _⟩ := h4.1.value
  have hlt : g < W.heap.size := (Array.getElem?_eq_some_iff.1 hB).1
  have hg := (hb.block g hlt).trans hB
  refine ⟨ap, as_, ab, at_, rfl, heap_cell hg 0, heap_cell hg 1, heap_cell hg 2, heap_cell hg 3, heap_cell hg 4, heap_cell hg 5, heap_cell hg 6, heap_cell hg 7, heap_cell hg 8, Lib.hid (And.intro ?_ ?_)⟩
  · have e1 := CW.rp.len
    have e2 := CW.rs.len
    have e3 := CW.rb.len
    have e4 := CW.rt.len
    subst e1 e2 e3 e4
    exact ⟨Nat.le_refl _, h1.wide (by omega) (by omega), h2.wide (by omega) (by omega), h3.wide (by omega) (by omega), h4.wide (by omega) (by omega)⟩
  · exact hb

/-- The net, in the end. -/
theorem net_made {w1 w : World} {lo lo' hi q b top : Nat} {c : Cfg} {ap as_ ab at_ : Option Addr} (h : OwnAt w1 lo hi c ap as_ ab at_) (hk : ∀ g, lo ≤ g → g < hi → w.heap[g]? = w1.heap[g]?) (hs : w1.heap.size ≤ w.heap.size) (n : Nat) (hn : c.nodes = n)
    (hq : w.heap[q]? = some (.cells (c.pairs.map eI).toArray 3 (0, 0))) (hb : w.heap[b]? = some (.cells #[.int .i64 c.nodes, .slice ap c.ps.length c.ps.length, .slice as_ c.ss.length c.ss.length, .int .i64 c.long, .slice ab c.bs.length c.bs.length, .slice at_ c.ts.length c.ts.length, .int .i64 c.miss, .int .i64 c.good, .int .i64 c.fresh, .slice (some ⟨q, 0, none⟩) n n] 56 (0, 0)))
    (g1 : lo' ≤ lo) (g2 : hi ≤ top) (g3 : lo' ≤ q) (g4 : q < top) (g5 : lo' ≤ b) (g6 : b < top) (g7 : top ≤ w.heap.size) : NetAt w lo' top b c := by
  have hw := h.in_block hk hs
  refine ⟨_, _, _, _, _, hb, g5, g6, g7, hw.2.1.wide g1 g2, hw.2.2.1.wide g1 g2, hw.2.2.2.1.wide g1 g2, hw.2.2.2.2.wide g1 g2, ?_⟩
  have hl : c.pairs.length = n := by unfold Cfg.pairs; rw [pairsUp_length]; omega
  have hn' : c.nodes.toNat = n := by omega
  rw [hn']
  refine ⟨.inr ⟨q, _, rfl, g3, hq, by simp [hl], by simp [hl], ?_⟩, fun g hg => ?_⟩
  · simp only [Nat.mul_one]; exact List.take_of_length_le (by simp [hl])
  · simp [Value.ownBlock] at hg
    omega

/-- A net's lists, ready. -/
def Ready (w w2 : World) (c : Cfg) (n q : Nat) (ap as_ ab at_ : Option Addr) : Prop :=
  ∃ lo hi, w.heap.size + 1 ≤ lo ∧ (hi ≤ q ∧ w.heap.size ≤ q) ∧ q < w2.heap.size ∧ OwnAt w2 lo hi c ap as_ ab at_ ∧ w2.heap[q]? = some (.cells (List.replicate n (eI (-1))).toArray 3 (0, 0)) ∧ Below w.heap.size w w2
theorem ready_of {w wr W w1 X w2 : World} {c : Cfg} {n : Nat} {ap as_ ab at_ : Option Addr} (hlt : w.heap.size < wr.heap.size) (hr : Below w.heap.size w W) (hW : wr.heap.size ≤ W.heap.size) (h1 : OwnAt w1 W.heap.size w1.heap.size c ap as_ ab at_ ∧ Below W.heap.size W w1) (hX : Below w1.heap.size w1 X) (hb : Below X.heap.size X w2)
    (hq : w2.heap[X.heap.size]? = some (.cells (List.replicate n (eI (-1))).toArray 3 (0, 0))) (hs : X.heap.size + 1 ≤ w2.heap.size) : Ready w w2 c n X.heap.size ap as_ ab at_ := by
  have s1 := h1.2.size
  have s2 := hX.size
  have hb2 : Below w1.heap.size w1 w2 := hX.trans (hb.mono s2)
  refine ⟨W.heap.size, w1.heap.size, by omega, ⟨s2, by omega⟩, by omega, h1.1.below hb2, hq, ?_⟩
  exact (hr.trans (h1.2.mono (by omega))).trans (hb2.mono (by omega))
theorem cell_of_block {A B : World} {g : Nat} (h : A.heap[g]? = B.heap[g]?) {k : Nat} : A.cell? ⟨g, k, none⟩ = B.cell? ⟨g, k, none⟩ := by
  simp [World.cell?, h]
theorem cell_on {w1 X w2 : World} {g : Nat} (hX : Below w1.heap.size w1 X) (hb : Below X.heap.size X w2) (k : Nat) (v : Value) (h : w1.cell? ⟨g, k, none⟩ = some v) : w2.cell? ⟨g, k, none⟩ = some v := by
  have h0 := World.block_lt_of_cell? w1 _ h
  have h1 := (hX.cell (p := ⟨g, k, none⟩) h0).trans h
  exact (hb.cell (World.block_lt_of_cell? X _ h1)).trans h1

theorem halves_in {n : Int} (h4 : 4 ≤ n) (h16 : n ≤ 16) {ps : List Int} (hi : insideB ps n = true) : ∀ x ∈ halvesL n ps, 0 ≤ x ∧ x < n := by
  intro x hx
  unfold halvesL at hx
  rw [List.mem_flatMap] at hx
  obtain ⟨a, ha, hx⟩ := hx
  have h := (of_decide_eq_true hi) a ha
  simp only [List.mem_cons, List.not_mem_nil, or_false] at hx
  rcases hx with rfl | rfl
  · exact h
  · unfold stepF
    split
    · rename_i hr
      have := ringB_true hr.1
      rw [if_pos rfl]
      exact ⟨Int.emod_nonneg _ (by omega), Int.emod_lt_of_pos _ (by omega)⟩
    · rename_i hr
      exact absurd ⟨by simp [ringB]; omega, by simp [nodeB]; omega⟩ hr

/-- Between two rounds of the loop over the halves. -/
structure Pairing (w4 wr : World) (q n k : Nat) (hs : List Int) : Prop where
  blk : wr.heap[q]? = some (.cells ((pairsUp n hs k).map eI).toArray 3 (0, 0))
  rest : ∀ g, g ≠ q → wr.heap[g]? = w4.heap[g]?
  size : wr.heap.size = w4.heap.size
  low : Below q w4 wr
theorem Pairing.step {w4 wr : World} {q n k : Nat} {hs : List Int} (h : Pairing w4 wr q n k hs) (x : Int) (hx : hs[k]? = some x) : Pairing w4 (wr.setCell ⟨q, x.toNat, none⟩ (.int .i64 ((k / 2 : Nat) : Int))) q n (k + 1) hs := by
  refine ⟨?_, ?_, ?_, h.low.setCell (Nat.le_refl _) _⟩
  · rw [heap_set_same h.blk]
    have e : hs.getD k 0 = x := by rw [List.getD_eq_getElem?_getD, hx]; rfl
    simp only [pairsUp, e]
    rw [List.setIfInBounds_toArray, List.map_set]
    rfl
  · intro g hg
    rw [Below.heap_setCell _ _ _ _ hg]
    exact h.rest g hg
  · simp [World.setCell, h.size]
/-- What a round needs. -/
theorem Pairing.cells {w4 wr : World} {q n k : Nat} {hs : List Int} (h : Pairing w4 wr q n k hs) (x : Nat) (hx : x < n) : (∃ v, wr.cell? ⟨q, x, none⟩ = some v) ∧ wr.frozen? ⟨q, x, none⟩ = false := by
  refine ⟨?_, heap_thawed h.blk x⟩
  rw [heap_cell h.blk]
  have : x < ((pairsUp n hs k).map eI).toArray.size := by simp [pairsUp_length, hx]
  exact ⟨_, Array.getElem?_eq_getElem this⟩
/-- The halves, as a slice that is not empty. -/
theorem halves_slice {w4 : World} {b m : Nat} {zs : List Int} {v : Value} (ho : w4.ownsRow b 3 1 v m (zs.map eI)) (hm : 0 < m) : ∃ g cap, v = .slice (some ⟨g, 0, none⟩) m cap ∧ b ≤ g ∧ zs.length = m ∧ ∀ k x, zs[k]? = some x → w4.cell? ⟨g, k, none⟩ = some (.int .i64 x) := by
  obtain ⟨h1, ⟨rfl, rfl⟩ | ⟨g, cap, cur, rfl, hb, hg, _, _, hs, ht⟩⟩ := ho
  · omega
  · refine ⟨g, cap, rfl, hb, by simpa using h1, fun k x hk => ?_⟩
    rw [heap_cell hg]
    have e : (cur.toList.take (m * 1))[k]? = some (eI x) := by rw [ht]; simp [hk]
    have hk2 : k < zs.length := (List.getElem?_eq_some_iff.1 hk).1
    rw [List.getElem?_take] at e
    have h1' : zs.length = m := by simpa using h1
    rw [if_pos (by omega)] at e
    simpa [eI] using e
end Go.Proofs.YtibncdkekceokaaDoor
