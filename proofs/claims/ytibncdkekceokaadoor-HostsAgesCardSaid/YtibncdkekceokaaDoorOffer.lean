/- hosts.Offer: entries in memory; slices.Backward's iterator; the offer of a round. -/
import Derived.Test.YtibncdkekceokaaDoorPHostsBoxx4
import Derived.Test.YtibncdkekceokaaDoorCoreC
import Derived.RangeFuncNested
import Derived.RangeFuncBound
import Derived.RangeFuncCalls
import Derived.Shelf.RegionOpen
namespace Go.Proofs.YtibncdkekceokaaDoor
open Go.RowKit Go.Shelf
attribute [local go_sem] Oper.semAt_some

/-- An entry. -/
structure Ent where
  frm : Int
  rounds : Int
  kind : Int
  st : Int
  seq : Int
  val : Int
  lo : -9223372036854775808 ≤ frm
  hi : rounds ≤ 9223372036854775807
def Ent.v (e : Ent) : Value := .agg #[.int .i64 e.frm, .int .i64 e.rounds, .int .u8 e.kind, .int .u8 e.st, .int .u32 e.seq, .int .u32 e.val]
def EntAt (W : World) (b o : Nat) (e : Ent) : Prop :=
  W.cell? ⟨b, o, none⟩ = some (.int .i64 e.frm) ∧ W.cell? ⟨b, o + 1, none⟩ = some (.int .i64 e.rounds) ∧ W.cell? ⟨b, o + 2, none⟩ = some (.int .u8 e.kind) ∧ W.cell? ⟨b, o + 3, none⟩ = some (.int .u8 e.st) ∧ W.cell? ⟨b, o + 4, none⟩ = some (.int .u32 e.seq) ∧ W.cell? ⟨b, o + 5, none⟩ = some (.int .u32 e.val)
theorem EntAt.below {n₀ : Nat} {A B : World} {b o : Nat} {e : Ent} (hb : Below n₀ A B) (hlt : b < n₀) (h : EntAt A b o e) : EntAt B b o e :=
  ⟨(hb.cell (p := ⟨b, o, none⟩) hlt).trans h.1, (hb.cell (p := ⟨b, o + 1, none⟩) hlt).trans h.2.1, (hb.cell (p := ⟨b, o + 2, none⟩) hlt).trans h.2.2.1, (hb.cell (p := ⟨b, o + 3, none⟩) hlt).trans h.2.2.2.1, (hb.cell (p := ⟨b, o + 4, none⟩) hlt).trans h.2.2.2.2.1, (hb.cell (p := ⟨b, o + 5, none⟩) hlt).trans h.2.2.2.2.2⟩
/-- The slice value sv holds the entries es, in a block below n₀; or it is nil and there are none. -/
def EntsAt (n₀ : Nat) (W : World) (sv : Value) (es : List Ent) : Prop :=
  (sv = .slice none 0 0 ∧ es = []) ∨ ∃ b off cap, sv = .slice (some ⟨b, off, none⟩) es.length cap ∧ b < n₀ ∧ ∀ j (h : j < es.length), EntAt W b (off + j * 6) es[j]
theorem EntsAt.below {n₀ : Nat} {A B : World} (h : Below n₀ A B) {sv : Value} {es : List Ent} : EntsAt n₀ A sv es → EntsAt n₀ B sv es
  | .inl e => .inl e
  | .inr ⟨b, off, cap, e, hb, hc⟩ => .inr ⟨b, off, cap, e, hb, fun j hj => (hc j hj).below h hb⟩

theorem EntsAt.wide {n₀ n₁ : Nat} {A : World} {sv : Value} {es : List Ent} (hn : n₀ ≤ n₁) : EntsAt n₀ A sv es → EntsAt n₁ A sv es
  | .inl e => .inl e
  | .inr ⟨b, off, cap, e, hb, hc⟩ => .inr ⟨b, off, cap, e, by omega, hc⟩

/-- Does an entry offer, in a round? -/
def offB (e : Ent) (r : Int) : Bool := decide ((e.kind = 1 ∨ e.kind = 2) ∧ e.frm ≤ r ∧ 0 < e.rounds ∧ r - e.frm < e.rounds)
/-- The last entry that offers. -/
def lastOff (es : List Ent) (r : Int) : Option Ent := es.reverse.find? fun e => offB e r
def isB (r : Int) : Bool := decide (0 ≤ r ∧ r ≤ 1099511627776)
theorem is_any (r : Int) (w : World) : Calls Tryd.prog 88 #[.int .i64 r] w fun e w' => e = .returned (.bool (isB r)) ∧ w' = w := by
  by_cases h : 0 ≤ r
  · have d : decide (0 ≤ r) = true := decide_eq_true h
    have e1 : isB r = decide (r ≤ 1099511627776) := by unfold isB; rw [Bool.eq_iff_iff, decide_eq_true_eq, decide_eq_true_eq]; omega
    rw [e1]
    clear e1
    go_enter Tryd.func88, Tryd.ntmps88
    go_wp2
    go_ret
    exact ⟨rfl, rfl⟩
  · have d : decide (0 ≤ r) = false := decide_eq_false h
    have e1 : isB r = false := by unfold isB; exact decide_eq_false (by omega)
    rw [e1]
    clear e1
    go_enter Tryd.func88, Tryd.ntmps88
    go_wp2
    go_ret
    exact ⟨rfl, rfl⟩
theorem offers_f (e : Ent) (r : Int) (h0 : 0 ≤ r) (h1 : r ≤ 1099511627776) : PHostsBox.hosts_Entry_offers.f e.frm e.rounds e.kind e.st e.seq e.val r = some (offB e r) := by
  have hf := e.lo
  have hr := e.hi
  have key : (if r ≥ e.frm then (if e.rounds > 0 then (if e.frm ≥ 0 then (if (wrap64 (r - e.frm)) < e.rounds then (some true) else (if e.frm < 0 then (some (decide (r < (wrap64 (e.rounds + e.frm))))) else (some false))) else (if e.frm < 0 then (some (decide (r < (wrap64 (e.rounds + e.frm))))) else (some false))) else (some false)) else (some false)) = some (decide (e.frm ≤ r ∧ 0 < e.rounds ∧ r - e.frm < e.rounds)) := by
    by_cases a1 : r ≥ e.frm
    · rw [if_pos a1]
      by_cases a2 : e.rounds > 0
      · rw [if_pos a2]
        by_cases a3 : e.frm ≥ 0
        · rw [if_pos a3]
          have ew : wrap64 (r - e.frm) = r - e.frm := by unfold wrap64; omega
          rw [ew]
          by_cases a4 : r - e.frm < e.rounds
          · rw [if_pos a4, decide_eq_true (by omega)]
          · rw [if_neg a4, if_neg (by omega), decide_eq_false (by omega)]
        · rw [if_neg a3, if_pos (by omega)]
          have ew : wrap64 (e.rounds + e.frm) = e.rounds + e.frm := by unfold wrap64; omega
          rw [ew]
          congr 1
          rw [Bool.eq_iff_iff, decide_eq_true_eq, decide_eq_true_eq]
          omega
      · rw [if_neg a2, decide_eq_false (by omega)]
    · rw [if_neg a1, decide_eq_false (by omega)]
  unfold PHostsBox.hosts_Entry_offers.f
  rw [key]
  unfold offB
  by_cases k1 : e.kind = 1
  · rw [if_pos k1]
    congr 1
    rw [Bool.eq_iff_iff, decide_eq_true_eq, decide_eq_true_eq]
    omega
  · rw [if_neg k1]
    by_cases k2 : e.kind = 2
    · rw [if_pos k2]
      congr 1
      rw [Bool.eq_iff_iff, decide_eq_true_eq, decide_eq_true_eq]
      omega
    · rw [if_neg k2, decide_eq_false (by omega)]
theorem offers_any (e : Ent) (r : Int) (h0 : 0 ≤ r) (h1 : r ≤ 1099511627776) (w : World) :
    Calls Tryd.prog 90 #[.agg #[.int .i64 e.frm, .int .i64 e.rounds, .int .u8 e.kind, .int .u8 e.st, .int .u32 e.seq, .int .u32 e.val], .int .i64 r] w fun en w' => en = .returned (.bool (offB e r)) ∧ Below w.heap.size w w' :=
  PHostsBox.hosts_Entry_offers.calls _ _ _ _ _ _ r _ w (offers_f e r h0 h1)

set_option maxRecDepth 100000 in
set_option maxHeartbeats 2000000 in
theorem back1_in (F : Fence) (n : Nat) (h7 : F.fn 121) (hro : F.round = none) (hn : 1 ≤ n) (l Bs n₀ b off cap : Nat) (es : List Ent) (hreach : es.length ≤ 1000000) (hb : b < n₀) (J Jx : List (Nat × Ent) → World → Prop)
    (hY : ∀ pre x W, J pre W → pre.length < es.length → YieldAt F (n - 1) Tryd.prog l #[.int .i64 (x.1 : Nat), x.2.v] W fun e W' =>
      (e = .returned (.bool true) ∧ J (pre ++ [x]) W' ∧ Below n₀ W W') ∨ (e = .returned (.bool false) ∧ Jx (pre ++ [x]) W'))
    (W : World) (hBs : W.cell? ⟨Bs, 0, none⟩ = some (.slice (some ⟨b, off, none⟩) es.length cap)) (hBl : Bs < n₀) (hc : ∀ j (h : j < es.length), EntAt W b (off + j * 6) es[j]) (h0 : J [] W) :
    CallsIn F n Tryd.prog 121 #[.func (.yield l) #[] #[], .pointer (some ⟨Bs, 0, none⟩)] W fun e W' => (∃ v, e = .returned v) ∧
      ((∃ ys, ys.map (·.2) = es.reverse ∧ J ys W') ∨ (∃ pre, pre.map (·.2) <+: es.reverse ∧ Jx pre W')) := by
  obtain ⟨len, hlen⟩ : ∃ len, len = es.length := ⟨_, rfl⟩
  rw [← hlen] at hBs hreach hY
  have HLEN := Lib.hid hlen
  clear hlen
  refine callsIn_of_wp Tryd.func121 rfl h7 ?_ hro
  simp only [Tryd.ntmps121, List.size_toArray, List.length_cons, List.length_nil, Nat.reduceAdd, Nat.reduceSub, Array.replicate_succ, Array.replicate_zero, List.push_toArray, List.append_toArray, List.nil_append, List.cons_append]
  gi_wp2
  gi_loopw [3] (fun i wr => ∃ (m : Nat) (ys : List (Nat × Ent)), m ≤ len ∧ i = .int .i64 ((m : Int) - 1) ∧ Hid (ys.map (·.2) = es.reverse.take (len - m) ∧ J ys wr) ∧ Below n₀ W wr)
    (fun i _ => (intOf i + 1).toNat)
  case atStart => exact ⟨len, [], Nat.le_refl _, rfl, Lib.hid ⟨by simp, h0⟩, Below.refl _ _⟩
  case round =>
    obtain ⟨m, ys, hm, rfl, HJ, hnx⟩ := hrel
    rcases m with _ | m
    · rw [show (((0 : Nat) : Int) - 1) = -1 by omega]
      gi_wp2
      go_end0
      exact ⟨⟨_, rfl⟩, .inl ⟨ys, by have := HJ.out.1; rw [List.take_of_length_le (by rw [List.length_reverse, HLEN.out]; omega)] at this; exact this, HJ.out.2⟩⟩
    · rw [show (((m + 1 : Nat) : Int) - 1) = m by omega]
      have hml : m < es.length := by rw [← HLEN.out]; omega
      have hyl : ys.length = len - (m + 1) := by
        have := congrArg List.length HJ.out.1
        rw [List.length_map, List.length_take, List.length_reverse, ← HLEN.out] at this
        omega
      have hbs := (hnx.cell (p := ⟨Bs, 0, none⟩) hBl).trans hBs
      have hen := (hc m hml).below hnx hb
      have htk : es.reverse.take (len - m) = es.reverse.take (len - (m + 1)) ++ [es[m]] := by
        have hi : len - (m + 1) < es.reverse.length := by rw [List.length_reverse, ← HLEN.out]; omega
        have h := List.take_succ_eq_append_getElem hi
        rw [show len - (m + 1) + 1 = len - m by omega] at h
        rw [h, List.getElem_reverse]
        congr 3
        have := HLEN.out
        omega
      have HTK := Lib.hid htk
      clear htk
      generalize es[m] = en at hen HTK
      obtain ⟨c0, c1, c2, c3, c4, c5⟩ := hen
      obtain ⟨fn, tmps, assign, body, hy, hR⟩ := hY _ (m, en) wr HJ.out.2 (by omega)
      unfold Ent.v at hy
      dsimp only at hy
      gi_wp2
      refine hR.mono ?_
      rintro e W3 (⟨rfl, hJ3, hk3⟩ | ⟨rfl, hJx3⟩)
      · gi_wp2
        go_roundw
        case rel => exact ⟨m, ys ++ [(m, en)], by omega, by first | rfl | go_num, Lib.hid ⟨by rw [List.map_append, HTK.out, HJ.out.1]; rfl, hJ3⟩, hnx.trans hk3⟩
        case measure => first | (simp [intOf]; done) | (simp [intOf]; omega)
      · gi_wp2
        refine bodyPost_ret (results_none rfl _ _ _) rfl ?_
        exact ⟨⟨_, rfl⟩, .inr ⟨_, by rw [List.map_append, HJ.out.1]; show _ ++ [en] <+: _; rw [← HTK.out]; exact List.take_prefix _ _, hJx3⟩⟩
set_option maxRecDepth 100000 in
set_option maxHeartbeats 1000000 in
theorem back1_nil_in (F : Fence) (n : Nat) (h7 : F.fn 121) (hro : F.round = none) (l Bs : Nat) (J : List (Nat × Ent) → World → Prop) (W : World) (hBs : W.cell? ⟨Bs, 0, none⟩ = some (.slice none 0 0)) (h0 : J [] W) :
    CallsIn F n Tryd.prog 121 #[.func (.yield l) #[] #[], .pointer (some ⟨Bs, 0, none⟩)] W fun e W' => (∃ v, e = .returned v) ∧ J [] W' := by
  refine callsIn_of_wp Tryd.func121 rfl h7 ?_ hro
  simp only [Tryd.ntmps121, List.size_toArray, List.length_cons, List.length_nil, Nat.reduceAdd, Nat.reduceSub, Array.replicate_succ, Array.replicate_zero, List.push_toArray, List.append_toArray, List.nil_append, List.cons_append]
  gi_wp2
  gi_loopw [3] (fun i wr => i = .int .i64 (-1) ∧ J [] wr) (fun _ _ => 0)
  case atStart => exact ⟨rfl, h0⟩
  case round =>
    obtain ⟨rfl, hJs⟩ := hrel
    gi_wp2
    go_end0
    exact ⟨⟨_, rfl⟩, hJs⟩
theorem back_stops (F : Fence) (n : Nat) (h7 : F.fn 121) (hro : F.round = none) (hn : 1 ≤ n) (Bs n₀ : Nat) (a : Option Addr) (cap : Nat) (es : List Ent) (hreach : es.length ≤ 1000000) (w : World) (hBs : w.cell? ⟨Bs, 0, none⟩ = some (.slice a es.length cap)) (hBl : Bs < n₀) (hn₀ : n₀ ≤ w.heap.size)
    (hI : EntsAt n₀ w (.slice a es.length cap) es) :
    SeqStopsK F n Tryd.prog 121 #[.pointer (some ⟨Bs, 0, none⟩)] (fun x : Nat × Ent => #[.int .i64 (x.1 : Nat), x.2.v]) (Below n₀) (fun ys => ys.map (·.2) = es.reverse) (fun pre => pre.map (·.2) <+: es.reverse) es.length w := fun l J Jx W hW _ _ hY h0 => by
  have hw := hW.mono hn₀
  have hc := (hw.cell (p := ⟨Bs, 0, none⟩) hBl).trans hBs
  rcases hI with ⟨e, rfl⟩ | ⟨b, off, cap', e, hb, hcs⟩
  · rw [e] at hc
    exact (back1_nil_in F n h7 hro l Bs J W hc h0).mono fun _ _ ⟨h1, h2⟩ => ⟨h1, .inl ⟨[], rfl, h2⟩⟩
  · cases e
    exact back1_in F n h7 hro hn l Bs n₀ b off cap es hreach hb J Jx hY W hc hBl (fun j hj => (hcs j hj).below hw hb) h0
set_option maxHeartbeats 1000000 in
theorem backward_in (F : Fence) (n : Nat) (h5 : F.fn 89) (hro : F.round = none) (a : Option Addr) (len cap : Nat) (w : World) :
    CallsIn F n Tryd.prog 89 #[.slice a len cap] w fun e w' => e = .returned (.func (.func 121) #[] #[.pointer (some ⟨w.heap.size, 0, none⟩)]) ∧ w' = w.alloc (.cells #[.slice a len cap] 92) := by
  refine callsIn_of_wp Tryd.func89 rfl h5 ?_ hro
  simp only [Tryd.ntmps89, List.size_toArray, List.length_cons, List.length_nil, Nat.reduceAdd, Nat.reduceSub, Array.replicate_succ, Array.replicate_zero, List.push_toArray, List.append_toArray, List.nil_append, List.cons_append]
  gi_wp2
  go_ret
  exact ⟨rfl, rfl⟩

/-- What is offered, as it lies in memory. -/
def saidC : Option Ent → Int → Array Value
  | none, _ => #[.bool false, .int .i64 0, .int .u8 0, .int .u8 0, .int .u32 0, .int .u32 0]
  | some e, r => #[.bool true, .int .i64 r, .int .u8 e.kind, .int .u8 e.st, .int .u32 e.seq, .int .u32 e.val]
theorem row_own {β : Type} (B : Nat) (t : TypeId) (f : β → Array Value) : Own (fun s W => W.heap[B]? = some (.cells (f s) t (0, 0))) := fun s X Y row hs hg hrow => by
  refine (hg.block B (Array.getElem?_eq_some_iff.1 hs).1 (fun e => ?_)).trans hs
  obtain ⟨o, ho, hc⟩ := hrow B e.symm
  rw [hs] at ho
  cases ho
  cases hc
set_option maxRecDepth 100000 in
set_option maxHeartbeats 4000000 in
theorem offer_in (n : Nat) (hn : 6 ≤ n) (a : Option Addr) (cap : Nat) (es : List Ent) (r : Int) (h0 : 0 ≤ r) (h1 : r ≤ 1099511627776) (hreach : es.length ≤ 1000000) (w : World) (hI : EntsAt w.heap.size w (.slice a es.length cap) es) :
    CallsIn Fence.wide n Tryd.prog 59 #[.slice a es.length cap, .int .i64 r] w fun e w' => e = .returned (.agg (saidC (lastOff es r) r)) ∧ Below w.heap.size w w' := by
  have hn1 : 1 ≤ n := by omega
  have hib : isB r = true := decide_eq_true ⟨h0, h1⟩
  obtain ⟨len, hlen⟩ : ∃ len, len = es.length := ⟨_, rfl⟩
  rw [← hlen]
  have HLEN := Lib.hid hlen
  have HIE := Lib.hid hI
  have HI : Hid (∀ W, Calls Tryd.prog 88 #[.int .i64 r] W fun e w' => e = .returned (.bool true) ∧ w' = W) := Lib.hid fun W => by have := is_any r W; rw [hib] at this; exact this
  clear hlen hI hib
  refine callsIn_of_wp_marks Tryd.func59 rfl trivial ?_ rfl
  simp only [Tryd.ntmps59, List.size_toArray, List.length_cons, List.length_nil, Nat.reduceAdd, Nat.reduceSub, Array.replicate_succ, Array.replicate_zero, List.push_toArray, List.append_toArray, List.nil_append, List.cons_append]
  gi_wp2_with (first | (refine ⟨trivial, ?_⟩; gi_at_call 88; refine (callsIn_wide.2 (HI.out _)).mono ?_; rintro e w' ⟨rfl, rfl⟩) | (refine ⟨trivial, ?_⟩; gi_at_call 89; refine (backward_in Fence.wide (n - 1) trivial rfl _ _ _ _).mono ?_; rintro e w' ⟨rfl, rfl⟩))
  obtain ⟨W0, hW0⟩ : ∃ W0, ((w.alloc (.cells #[.int .i64 r] 2)).alloc (.cells #[.bool false, .int .i64 0, .int .u8 0, .int .u8 0, .int .u32 0, .int .u32 0] 101)).alloc (.cells #[.slice a len cap] 92) = W0 := ⟨_, rfl⟩
  have hB0 : Below w.heap.size w W0 := by rw [← hW0]; exact (((Below.refl _ w).alloc (Nat.le_refl _) _).alloc (by simp) _).alloc (by simp; omega) _
  have rr : W0.heap[w.heap.size]? = some (.cells #[.int .i64 r] 2 (0, 0)) := by rw [← hW0]; exact (heap_alloc_old _ _ (by simp; omega)).trans (heap_alloc2_old w _ _)
  have rq : W0.heap[w.heap.size + 1]? = some (.cells #[.bool false, .int .i64 0, .int .u8 0, .int .u8 0, .int .u32 0, .int .u32 0] 101 (0, 0)) := by rw [← hW0]; exact (heap_alloc_old _ _ (by simp)).trans (heap_new _ _ _ (by simp))
  have rb : W0.heap[w.heap.size + 1 + 1]? = some (.cells #[.slice a len cap] 92 (0, 0)) := by rw [← hW0]; exact heap_new _ _ _ (by simp)
  have hsz : W0.heap.size = w.heap.size + 3 := by rw [← hW0]; simp
  first | rw [hW0] | (simp only [World.size_alloc] at *; rw [hW0])
  clear hW0
  have cb : W0.cell? ⟨w.heap.size + 1 + 1, 0, none⟩ = some (.slice a es.length cap) := by rw [← HLEN.out]; exact heap_cell rb 0
  refine wpIn_rangeFunc_ownH rfl hn1 (gf := 121) (lb := #[.pointer (some ⟨w.heap.size + 1 + 1, 0, none⟩)]) rfl trivial (enters_of Tryd.func121 (by kernel_rfl) rfl)
    (back_stops Fence.wide (n - 1) trivial rfl (by omega) (w.heap.size + 1 + 1) W0.heap.size a cap es hreach W0 cb (by omega) (Nat.le_refl _) ((HIE.out.below hB0).wide (by omega))) belowK_t (belowK_b (Nat.le_refl _)) (Below.refl _ _) (fun _ => rfl)
    (fun pre W => (((∀ x ∈ pre, offB x.2 r = false) ∧ W.heap[w.heap.size]? = some (.cells #[.int .i64 r] 2 (0, 0))) ∧ W.heap[w.heap.size + 1]? = some (.cells #[.bool false, .int .i64 0, .int .u8 0, .int .u8 0, .int .u32 0, .int .u32 0] 101 (0, 0))) ∧ Below W0.heap.size W0 W)
    (fun c pre W => ((c = .ret ∧ ∃ pre' x, pre = pre' ++ [x] ∧ (∀ y ∈ pre', offB y.2 r = false) ∧ offB x.2 r = true) ∧ W.heap[w.heap.size + 1]? = some (.cells (saidC (pre.getLast?.map (·.2)) r) 101 (0, 0))) ∧ Below w.heap.size w W)
    (OwnFrom.and (OwnFrom.and (OwnFrom.and (ownFrom_pure _ _) (Own.from (row_own _ _ (fun _ => #[.int .i64 r])) _)) (Own.from (row_own _ _ (fun _ => #[.bool false, .int .i64 0, .int .u8 0, .int .u8 0, .int .u32 0, .int .u32 0])) _)) (ownFrom_below (Nat.le_refl _) (Nat.le_refl _)))
    (fun c => OwnFrom.and (OwnFrom.and (ownFrom_pure _ _) (Own.from (row_own _ _ (fun pre : List (Nat × Ent) => saidC (pre.getLast?.map (·.2)) r)) _)) (ownFrom_below (Nat.le_refl _) (by omega)))
    ⟨⟨⟨by simp, rr⟩, rq⟩, Below.refl _ _⟩
    (fun x a' W => ∃ Bx, w.heap.size + 1 < Bx ∧ W.heap[Bx]? = some (.cells #[.int .i64 x.2.frm, .int .i64 x.2.rounds, .int .u8 x.2.kind, .int .u8 x.2.st, .int .u32 x.2.seq, .int .u32 x.2.val] 98 (0, 0)) ∧ a' = { tmps := #[.slice a len cap, .int .i64 r, undef, .pointer (some ⟨w.heap.size, 0, none⟩), .pointer (some ⟨w.heap.size + 1, 0, none⟩), undef, .pointer (some ⟨Bx, 0, none⟩), .int .i64 r, .bool true, .bool false, undef, .slice a len cap, .func (.func 121) #[] #[.pointer (some ⟨w.heap.size + 1 + 1, 0, none⟩)], .int .i64 (x.1 : Nat), .agg #[.int .i64 x.2.frm, .int .i64 x.2.rounds, .int .u8 x.2.kind, .int .u8 x.2.st, .int .u32 x.2.seq, .int .u32 x.2.val], undef, undef, undef, undef, undef, undef, undef, undef], defers := [] })
    (fun x a' _ X Y row hs hg hr => by obtain ⟨Bx, e1, e2, e3⟩ := hs; exact ⟨Bx, e1, row_own Bx 98 (fun (_ : Unit) => #[.int .i64 x.2.frm, .int .i64 x.2.rounds, .int .u8 x.2.kind, .int .u8 x.2.st, .int .u32 x.2.seq, .int .u32 x.2.val]) () X Y row e2 hg (fun r e => (hr r e).2), e3⟩)
    ?assign ?body ?done ?stop
  case assign =>
    rintro l pre x W K ⟨⟨⟨hp, r1⟩, r2⟩, hB1⟩ hK
    unfold Ent.v
    gi_wp2
    have hbo := (Below.refl W.heap.size W).alloc (Nat.le_refl _) (.cells #[.int .i64 x.2.frm, .int .i64 x.2.rounds, .int .u8 x.2.kind, .int .u8 x.2.st, .int .u32 x.2.seq, .int .u32 x.2.val] 98)
    have hl1 : w.heap.size < W.heap.size := (Array.getElem?_eq_some_iff.1 r1).1
    have hl2 : w.heap.size + 1 < W.heap.size := (Array.getElem?_eq_some_iff.1 r2).1
    exact hK _ _ ((KeepsOthers.alloc _ _).from _) ((Below.refl _ W).alloc hB1.size _) ⟨⟨⟨hp, (heap_alloc_old _ _ hl1).trans r1⟩, (heap_alloc_old _ _ hl2).trans r2⟩, hB1.alloc hB1.size _⟩ ⟨W.heap.size, hl2, heap_new _ _ _ rfl, rfl⟩
  case body =>
    rintro l pre x a' W hl ⟨lr, hlr⟩ ⟨⟨⟨hp, r1⟩, r2⟩, hB1⟩ ⟨Bx, hBx, rx, rfl⟩ hlt
    have c0 := heap_cell rx 0
    have c1 := heap_cell rx 1
    have c2 := heap_cell rx 2
    have c3 := heap_cell rx 3
    have c4 := heap_cell rx 4
    have c5 := heap_cell rx 5
    have cr := heap_cell r1 0
    simp only [List.getElem?_toArray, List.getElem?_cons_zero, List.getElem?_cons_succ] at c0 c1 c2 c3 c4 c5 cr
    have h1' : 1 ≤ n - 1 - 1 := by omega
    have HO := Lib.hid (offers_any x.2 r h0 h1 W)
    have HRX := Lib.hid rx
    have HR1 := Lib.hid r1
    have HR2 := Lib.hid r2
    have HP := Lib.hid hp
    obtain ⟨ob, hob⟩ : ∃ ob, ob = offB x.2 r := ⟨_, rfl⟩
    rw [← hob] at HO
    have HOB := Lib.hid hob
    clear rx r1 r2 hp hob
    gi_wp2_with (refine ⟨trivial, ?_⟩; gi_at_call 90; refine (CallsIn.inRound l (callsIn_wide.2 HO.out)).mono ?_; rintro e W' ⟨rfl, hbw⟩; clear c0 c1 c2 c3 c4 c5 cr; have HBW := Lib.hid hbw; clear hbw; have rx := (HBW.out.block Bx (Array.getElem?_eq_some_iff.1 HRX.out).1).trans HRX.out; have r1 := (HBW.out.block _ (Array.getElem?_eq_some_iff.1 HR1.out).1).trans HR1.out; have r2 := (HBW.out.block _ (Array.getElem?_eq_some_iff.1 HR2.out).1).trans HR2.out; have c2 := heap_cell rx 2; have c3 := heap_cell rx 3; have c4 := heap_cell rx 4; have c5 := heap_cell rx 5; have cr := heap_cell r1 0; have q0 := heap_cell r2 0; have q1 := heap_cell r2 1; have q2 := heap_cell r2 2; have q3 := heap_cell r2 3; have q4 := heap_cell r2 4; have q5 := heap_cell r2 5; have f0 := heap_thawed r2 0; have f1 := heap_thawed r2 1; have f2 := heap_thawed r2 2; have f3 := heap_thawed r2 3; have f4 := heap_thawed r2 4; have f5 := heap_thawed r2 5; simp only [List.getElem?_toArray, List.getElem?_cons_zero, List.getElem?_cons_succ] at c2 c3 c4 c5 cr q0 q1 q2 q3 q4 q5; have HQ1 := Lib.hid r1; have HQ2 := Lib.hid r2; clear rx r1 r2; cases ob)
    · gi_wp2
      have hg : W.grownBy W' none := ⟨HBW.out.os, HBW.out.tape, HBW.out.output, HBW.out.size, fun k hk _ => HBW.out.block k hk⟩
      refine ⟨KeepsFrom.of_grownBy hg (fun _ e => by cases e), HBW.out.mono hB1.size, ⟨⟨fun y hy => ?_, HQ1.out⟩, HQ2.out⟩, hB1.trans (HBW.out.mono hB1.size)⟩
      rcases List.mem_append.1 hy with h | h
      · exact HP.out y h
      · rw [List.mem_singleton.1 h]; exact HOB.out.symm
    · gi_wp2
      have hg : W.grownBy W' none := ⟨HBW.out.os, HBW.out.tape, HBW.out.output, HBW.out.size, fun k hk _ => HBW.out.block k hk⟩
      have hk0 : KeepsFrom W0.heap.size W W' := KeepsFrom.of_grownBy hg (fun _ e => by cases e)
      have hbb : Below w.heap.size w W' := hB0.trans ((hB1.trans (HBW.out.mono hB1.size)).mono hB0.size)
      refine ⟨(((((hk0.trans ((KeepsOthers.setCell _ _ _).from _)).trans ((KeepsOthers.setCell _ _ _).from _)).trans ((KeepsOthers.setCell _ _ _).from _)).trans ((KeepsOthers.setCell _ _ _).from _)).trans ((KeepsOthers.setCell _ _ _).from _)).trans ((KeepsOthers.setCell _ _ _).from _), ⟨⟨rfl, pre, x, rfl, HP.out, HOB.out.symm⟩, ?_⟩, (((((hbb.setCell (Nat.le_succ _) _).setCell (Nat.le_succ _) _).setCell (Nat.le_succ _) _).setCell (Nat.le_succ _) _).setCell (Nat.le_succ _) _).setCell (Nat.le_succ _) _⟩
      rw [List.getLast?_concat]
      exact heap_set_same (heap_set_same (heap_set_same (heap_set_same (heap_set_same (heap_set_same HQ2.out 0 _) 1 _) 2 _) 3 _) 4 _) 5 _
  case done =>
    rintro D ys W hD hys ⟨⟨⟨hp, r1⟩, r2⟩, hB1⟩ hK
    have hlast : lastOff es r = none := by
      unfold lastOff
      rw [← hys, List.find?_eq_none]
      intro e he
      obtain ⟨y, hy, rfl⟩ := List.mem_map.1 he
      simp [hp y hy]
    have q0 := heap_cell r2 0
    have q1 := heap_cell r2 1
    have q2 := heap_cell r2 2
    have q3 := heap_cell r2 3
    have q4 := heap_cell r2 4
    have q5 := heap_cell r2 5
    have f0 := heap_thawed r2 0
    have f1 := heap_thawed r2 1
    have f2 := heap_thawed r2 2
    have f3 := heap_thawed r2 3
    have f4 := heap_thawed r2 4
    have f5 := heap_thawed r2 5
    simp only [List.getElem?_toArray, List.getElem?_cons_zero, List.getElem?_cons_succ] at q0 q1 q2 q3 q4 q5
    have HR2 := Lib.hid r2
    have HLA := Lib.hid hlast
    clear r1 r2 hp hys hlast
    gi_wp2
    have hk6 : KeepsOthers W ((((((W.setCell ⟨w.heap.size + 1, 0, none⟩ (.bool false)).setCell ⟨w.heap.size + 1, 1, none⟩ (.int .i64 0)).setCell ⟨w.heap.size + 1, 2, none⟩ (.int .u8 0)).setCell ⟨w.heap.size + 1, 3, none⟩ (.int .u8 0)).setCell ⟨w.heap.size + 1, 4, none⟩ (.int .u32 0)).setCell ⟨w.heap.size + 1, 5, none⟩ (.int .u32 0)) := ((((((KeepsOthers.setCell _ _ _).trans (KeepsOthers.setCell _ _ _)).trans (KeepsOthers.setCell _ _ _)).trans (KeepsOthers.setCell _ _ _)).trans (KeepsOthers.setCell _ _ _)).trans (KeepsOthers.setCell _ _ _))
    have hbb : Below w.heap.size w W := hB0.trans (hB1.mono hB0.size)
    have hb6 : Below w.heap.size w ((((((W.setCell ⟨w.heap.size + 1, 0, none⟩ (.bool false)).setCell ⟨w.heap.size + 1, 1, none⟩ (.int .i64 0)).setCell ⟨w.heap.size + 1, 2, none⟩ (.int .u8 0)).setCell ⟨w.heap.size + 1, 3, none⟩ (.int .u8 0)).setCell ⟨w.heap.size + 1, 4, none⟩ (.int .u32 0)).setCell ⟨w.heap.size + 1, 5, none⟩ (.int .u32 0)) := (((((hbb.setCell (Nat.le_succ _) _).setCell (Nat.le_succ _) _).setCell (Nat.le_succ _) _).setCell (Nat.le_succ _) _).setCell (Nat.le_succ _) _).setCell (Nat.le_succ _) _
    have r6 : ((((((W.setCell ⟨w.heap.size + 1, 0, none⟩ (.bool false)).setCell ⟨w.heap.size + 1, 1, none⟩ (.int .i64 0)).setCell ⟨w.heap.size + 1, 2, none⟩ (.int .u8 0)).setCell ⟨w.heap.size + 1, 3, none⟩ (.int .u8 0)).setCell ⟨w.heap.size + 1, 4, none⟩ (.int .u32 0)).setCell ⟨w.heap.size + 1, 5, none⟩ (.int .u32 0)).heap[w.heap.size + 1]? = some (.cells #[.bool false, .int .i64 0, .int .u8 0, .int .u8 0, .int .u32 0, .int .u32 0] 101 (0, 0)) := heap_set_same (heap_set_same (heap_set_same (heap_set_same (heap_set_same (heap_set_same HR2.out 0 _) 1 _) 2 _) 3 _) 4 _) 5 _
    generalize ((((((W.setCell ⟨w.heap.size + 1, 0, none⟩ (.bool false)).setCell ⟨w.heap.size + 1, 1, none⟩ (.int .i64 0)).setCell ⟨w.heap.size + 1, 2, none⟩ (.int .u8 0)).setCell ⟨w.heap.size + 1, 3, none⟩ (.int .u8 0)).setCell ⟨w.heap.size + 1, 4, none⟩ (.int .u32 0)).setCell ⟨w.heap.size + 1, 5, none⟩ (.int .u32 0)) = V at hk6 hb6 r6 ⊢
    have hK' := hk6.same D _ hK rfl
    clear q0 q1 q2 q3 q4 q5 f0 f1 f2 f3 f4 f5
    refine ⟨by simp, .inl ⟨_, _, rfl, run_takeDeferred hK', ?_⟩⟩
    have r3 := row_own (w.heap.size + 1) 101 (fun (_ : Unit) => #[.bool false, .int .i64 0, .int .u8 0, .int .u8 0, .int .u32 0, .int .u32 0]) () V _ _ r6 (grownBy_putObj' V D (.deferred none)) (fun r e => by cases e; exact ⟨_, hK', rfl⟩)
    have q0 := heap_cell r3 0
    have q1 := heap_cell r3 1
    have q2 := heap_cell r3 2
    have q3 := heap_cell r3 3
    have q4 := heap_cell r3 4
    have q5 := heap_cell r3 5
    simp only [List.getElem?_toArray, List.getElem?_cons_zero, List.getElem?_cons_succ] at q0 q1 q2 q3 q4 q5
    refine ⟨.agg (saidC none r), ?_, by rw [HLA.out], hb6.trans (belowK_b (w := w) (Nat.le_refl _) V D _ _ (by omega) hK' rfl rfl)⟩
    simp [results, Tryd.f59, go_sem, q0, q1, q2, q3, q4, q5, saidC]
  case stop =>
    rintro D c pre W hD hpre ⟨⟨⟨rfl, pre', x, rfl, hp, hx⟩, r2⟩, hB1⟩ hK
    have hlast : lastOff es r = some x.2 := by
      unfold lastOff
      obtain ⟨rest, hrest⟩ := hpre
      rw [← hrest, List.map_append, List.find?_append, List.find?_append, (List.find?_eq_none (l := pre'.map (·.2))).2 (fun e he => by obtain ⟨y, hy, rfl⟩ := List.mem_map.1 he; simp [hp y hy])]
      simp [hx]
    rw [List.getLast?_concat] at r2
    have HLA := Lib.hid hlast
    clear hlast hpre
    gi_wp2
    refine ⟨by simp, .inl ⟨_, _, rfl, run_takeDeferred hK, ?_⟩⟩
    have r3 := row_own (w.heap.size + 1) 101 (fun (_ : Unit) => saidC (some x.2) r) () W _ _ r2 (grownBy_putObj' W D (.deferred none)) (fun r e => by cases e; exact ⟨_, hK, rfl⟩)
    have q0 := heap_cell r3 0
    have q1 := heap_cell r3 1
    have q2 := heap_cell r3 2
    have q3 := heap_cell r3 3
    have q4 := heap_cell r3 4
    have q5 := heap_cell r3 5
    simp only [saidC, List.getElem?_toArray, List.getElem?_cons_zero, List.getElem?_cons_succ] at q0 q1 q2 q3 q4 q5
    refine ⟨.agg (saidC (some x.2) r), ?_, by rw [HLA.out], hB1.trans (belowK_b (w := w) (Nat.le_refl _) W D _ _ (by omega) hK rfl rfl)⟩
    simp [results, Tryd.f59, go_sem, q0, q1, q2, q3, q4, q5, saidC]
/-- hosts.Offer, of whatever entries and round. -/
def offerF (es : List Ent) (r : Int) : Option Ent := if isB r = true then lastOff es r else none
set_option maxHeartbeats 1000000 in
theorem offer_any (a : Option Addr) (cap : Nat) (es : List Ent) (r : Int) (hreach : es.length ≤ 1000000) (w : World) (hI : EntsAt w.heap.size w (.slice a es.length cap) es) :
    Calls Tryd.prog 59 #[.slice a es.length cap, .int .i64 r] w fun e w' => e = .returned (.agg (saidC (offerF es r) r)) ∧ Below w.heap.size w w' := by
  unfold offerF
  by_cases hi : isB r = true
  · rw [if_pos hi]
    have hr : 0 ≤ r ∧ r ≤ 1099511627776 := of_decide_eq_true hi
    exact (callsIn_wide (n := 6)).1 (offer_in 6 (by omega) a cap es r hr.1 hr.2 hreach w hI)
  · rw [if_neg hi]
    have h1 := is_any r ((w.alloc (.cells #[.int .i64 r] 2)).alloc (.cells #[.bool false, .int .i64 0, .int .u8 0, .int .u8 0, .int .u32 0, .int .u32 0] 101))
    rw [show isB r = false by simpa using hi] at h1
    have HB := Lib.hid (((Below.refl w.heap.size w).alloc (Nat.le_refl _) (.cells #[.int .i64 r] 2)).alloc (by simp) (.cells #[.bool false, .int .i64 0, .int .u8 0, .int .u8 0, .int .u32 0, .int .u32 0] 101))
    generalize es.length = len
    clear hi hI hreach
    go_enter Tryd.func59, Tryd.ntmps59
    go_wp2_with (go_at_call 88; refine (h1).mono ?_; rintro e w' ⟨rfl, rfl⟩)
    refine bodyPost_ret (v := .agg #[.bool false, .int .i64 0, .int .u8 0, .int .u8 0, .int .u32 0, .int .u32 0]) (by simp [results, Tryd.results59, go_sem]) rfl ⟨rfl, ?_⟩
    exact HB.out
end Go.Proofs.YtibncdkekceokaaDoor
