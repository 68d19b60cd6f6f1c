/- sennitlaw04.ConfigsTurned: slices that the call owns, side by side. -/
import Derived.Test.YtibncdkekceokaaDoorLives04
import Derived.Test.YtibncdkekceokaaDoorSame
import Derived.Test.YtibncdkekceokaaDoorTurnP
import Derived.Deep.AppendLies
import Derived.Deep.RegionLaw
import Derived.Deep.RegionHeld3
import Derived.Laws.AppendOwnNone
namespace Go.Proofs.YtibncdkekceokaaDoor
open Go.RowKit

/-- A slice that the call owns. -/
def OwnL (B : Nat) (w : World) (v : Value) (l : List Int) : Prop := w.ownsRow B 3 1 v l.length (l.map eI)
def Away (u v : Value) : Prop := ∀ g, u.ownBlock = some g → v.ownBlock = some g → False
theorem Away.symm {u v : Value} (h : Away u v) : Away v u := fun g h1 h2 => h g h2 h1
theorem OwnL.nil (B : Nat) (w : World) : OwnL B w (.slice none 0 0) [] := World.ownsRow_nil _ _ _ _
theorem OwnL.later {B : Nat} {w w' : World} {v : Value} {l : List Int} (h : OwnL B w v l) (hb : Below w.heap.size w w') : OwnL B w' v l := own_below h hb
theorem OwnL.keep {B : Nat} {w w' : World} {u v : Value} {l : List Int} (h : OwnL B w u l) (hg : w.grownBy w' v.ownBlock) (hne : Away u v) : OwnL B w' u l :=
  h.kept hg (by
    cases hu : u.ownBlock with
    | none => exact .inl rfl
    | some g => exact .inr fun e => hne g hu e.symm)
theorem OwnL.far {B : Nat} {w : World} {u v : Value} {l : List Int} (h : OwnL B w u l) (hne : Away u v) {g n c : Nat} (hat : v.ownBlock = some g ∨ g = w.heap.size) : Away u (.slice (some ⟨g, 0, none⟩) n c) := fun k h1 h2 => by
  simp only [Value.ownBlock, Option.some.injEq] at h2
  subst h2
  rcases hat with h3 | h3
  · exact hne _ h1 h3
  · have := h.lt _ h1
    omega
/-- Three slices that the call owns. -/
structure Own3 (B : Nat) (w1 w : World) (v7 v8 v9 : Value) (lo hi ord : List Int) : Prop where
  below : Below B w1 w
  base : B ≤ w.heap.size
  o7 : OwnL B w v7 lo
  o8 : OwnL B w v8 hi
  o9 : OwnL B w v9 ord
  a78 : Away v7 v8
  a79 : Away v7 v9
  a89 : Away v8 v9
  n7 : lo = [] → v7 = .slice none 0 0
  n8 : hi = [] → v8 = .slice none 0 0
  n9 : ord = [] → v9 = .slice none 0 0
theorem Own3.later {B : Nat} {w1 w w' : World} {v7 v8 v9 : Value} {lo hi ord : List Int} (h : Own3 B w1 w v7 v8 v9 lo hi ord) (hb : Below w.heap.size w w') : Own3 B w1 w' v7 v8 v9 lo hi ord :=
  ⟨h.below.trans (hb.mono h.base), Nat.le_trans h.base hb.size, h.o7.later hb, h.o8.later hb, h.o9.later hb, h.a78, h.a79, h.a89, h.n7, h.n8, h.n9⟩
theorem Own3.push9 {B : Nat} {w1 w w' : World} {v7 v8 v9 : Value} {lo hi ord : List Int} (h : Own3 B w1 w v7 v8 v9 lo hi ord) {g c : Nat} (x : Int) (ho : w'.ownsRow B 3 1 (.slice (some ⟨g, 0, none⟩) (ord.length + 1) c) (ord.length + 1) (ord.map eI ++ [eI x])) (hg : w.grownBy w' v9.ownBlock) (hat : v9.ownBlock = some g ∨ g = w.heap.size) :
    Own3 B w1 w' v7 v8 (.slice (some ⟨g, 0, none⟩) (ord.length + 1) c) lo hi (ord ++ [x]) :=
  ⟨h.below.grown hg h.base (fun k hk => (h.o9.lt k hk).1), Nat.le_trans h.base hg.size, h.o7.keep hg h.a79, h.o8.keep hg h.a89, by unfold OwnL; rw [List.length_append, List.map_append]; exact ho, h.a78, h.o7.far h.a79 hat, h.o8.far h.a89 hat, h.n7, h.n8, fun e => absurd e (by simp)⟩
theorem Own3.swap89 {B : Nat} {w1 w : World} {v7 v8 v9 : Value} {lo hi ord : List Int} (h : Own3 B w1 w v7 v8 v9 lo hi ord) : Own3 B w1 w v7 v9 v8 lo ord hi := ⟨h.below, h.base, h.o7, h.o9, h.o8, h.a79, h.a78, h.a89.symm, h.n7, h.n9, h.n8⟩
theorem Own3.swap79 {B : Nat} {w1 w : World} {v7 v8 v9 : Value} {lo hi ord : List Int} (h : Own3 B w1 w v7 v8 v9 lo hi ord) : Own3 B w1 w v9 v8 v7 ord hi lo := ⟨h.below, h.base, h.o9, h.o8, h.o7, h.a89.symm, h.a79.symm, h.a78.symm, h.n9, h.n8, h.n7⟩

theorem grown_set (W : World) (b i : Nat) (v : Value) : W.grownBy (W.setCell ⟨b, i, none⟩ v) (some b) :=
  ⟨rfl, rfl, rfl, by simp, fun k _ hk => Below.heap_setCell _ _ _ k (fun e => hk (by rw [e]))⟩
theorem OwnL.off {B : Nat} {w : World} {v : Value} {l : List Int} (h : OwnL B w v l) {g : Nat} {cs : Array Value} {fr : Nat × Nat} (hg : w.heap[g]? = some (.cells cs 25 fr)) : v.ownBlock ≠ some g := by
  intro e
  rcases h.2 with ⟨rfl, _⟩ | ⟨g', cap, cur, rfl, _, hgb, _⟩
  · simp [Value.ownBlock] at e
  · simp only [Value.ownBlock, Option.some.injEq] at e
    subst e
    rw [hg] at hgb
    cases hgb
theorem Own3.set {B : Nat} {w1 w : World} {v7 v8 v9 : Value} {lo hi ord : List Int} (h : Own3 B w1 w v7 v8 v9 lo hi ord) {g : Nat} {cs : Array Value} (hg : w.heap[g]? = some (.cells cs 25 (0, 0))) (hB : B ≤ g) (i : Nat) (x : Value) : Own3 B w1 (w.setCell ⟨g, i, none⟩ x) v7 v8 v9 lo hi ord :=
  ⟨h.below.setCell hB _, by simpa using h.base, h.o7.kept (grown_set w g i x) (.inr (h.o7.off hg)), h.o8.kept (grown_set w g i x) (.inr (h.o8.off hg)), h.o9.kept (grown_set w g i x) (.inr (h.o9.off hg)), h.a78, h.a79, h.a89, h.n7, h.n8, h.n9⟩
theorem OwnL.reads {B : Nat} {w : World} {v : Value} {l : List Int} (h : OwnL B w v l) : ∃ a c, v = .slice a l.length c ∧ SliceOK a l.length c ∧ (l.length ≤ 9223372036854775807 → Reads w eI a l.length l) := by
  obtain ⟨a, c, rfl, hok⟩ := own_slice h
  refine ⟨a, c, rfl, hok, fun hs => ?_⟩
  obtain ⟨a', e, _, hr⟩ := (OwnV.of_own h).reads rfl hs
  cases e
  exact hr
theorem info_intT : (Tryd.prog.info? 3).map (fun i => (i.zero, i.size, i.bytes)) = some (some (.int .i64 0), 1, 8) := by kernel_rfl
/-- 'append(low, high...)', both of the call's own. -/
theorem own3_append {B : Nat} {w1 W : World} {v7 v8 v9 : Value} {lo hi od : List Int} (H : Own3 B w1 W v7 v8 v9 lo hi od) (hl : lo.length ≤ 16) (hh : hi.length ≤ 16) {g : Nat} {cs : Array Value} (hg : W.heap[g]? = some (.cells cs 25 (0, 0)))
    {a : Act} {Q : Exit → Act → World → Prop} {rest : List Oper} {ops : Array Oper} {o : Oper} (hgd : o.guard = none) (s x : Operand)
    (ho : o.op = .call { callee := .builtin .append, args := #[s, x], argTypes := #[22, 22] }) (hs : a.eval s = v7) (hx : a.eval x = v8)
    (h : ∀ a' c' w', Hid (Own3 B w1 w' (.slice a' (lo.length + hi.length) c') (.slice none 0 0) v9 (lo ++ hi) [] od ∧ w'.heap[g]? = some (.cells cs 25 (0, 0))) → Paused (wpList Tryd.prog ops Q rest (a.put o.dst (.slice a' (lo.length + hi.length) c')) w')) : wpList Tryd.prog ops Q (o :: rest) a W := by
  obtain ⟨i0, hi', hz0, hz1, hz2⟩ := info_parts info_intT
  have hnil : ∀ g, Value.ownBlock (.slice none 0 0) = some g → False := fun g h => by simp [Value.ownBlock] at h
  by_cases e : hi = []
  · have h8 := H.n8 e
    subst e h8
    obtain ⟨a7, c7, hv7, _, _⟩ := H.o7.reads
    refine wpList_append_own_none hgd s x 22 ho B 3 i0 1 Tryd.underlying22 hi' v7 lo.length (lo.map eI) hs H.o7 hx ?_
    rw [hv7]
    refine h a7 c7 W (Lib.hid ⟨⟨H.below, H.base, ?_, OwnL.nil _ _, H.o9, fun g _ h2 => hnil g h2, ?_, fun g h1 => (hnil g h1).elim, ?_, fun _ => rfl, H.n9⟩, hg⟩)
    · rw [List.append_nil]
      show OwnL B W (.slice a7 lo.length c7) lo
      rw [← hv7]; exact H.o7
    · have := H.a79; rw [hv7] at this; exact this
    · intro e
      rw [List.append_nil] at e
      show Value.slice a7 lo.length c7 = .slice none 0 0
      rw [← hv7]; exact H.n7 e
  · have hpos : 0 < hi.length := List.length_pos_iff.2 e
    obtain ⟨g8, c8, hv8⟩ : ∃ g8 c8, v8 = .slice (some ⟨g8, 0, none⟩) hi.length c8 := by
      rcases H.o8.2 with ⟨_, h0⟩ | ⟨g', cap, cur, rfl, _⟩
      · exact absurd h0 (by simpa using e)
      · exact ⟨g', cap, rfl⟩
    have hcells := H.o8.cells (g := g8) (by rw [hv8]; rfl)
    refine wpList_append_lies W hgd s x 22 ho B 3 i0 (.int .i64 0) 1 8 Tryd.underlying22 hi' hz0 hz1 hz2 rfl (by decide) v7 lo.length (lo.map eI) hs H.o7 ⟨g8, 0, none⟩ hi.length c8 (hi.map eI) (by rw [hx, hv8]) (by simp) hcells (by intro u hu; obtain ⟨z, _, rfl⟩ := List.mem_map.1 hu; rfl) hpos (by unfold maxLen; omega) (by omega) H.base _ rfl ?_
    intro g' cap w' hown hgrow hat _
    refine h _ _ w' (Lib.hid ⟨⟨H.below.grown hgrow H.base (fun k hk => (H.o7.lt k hk).1), Nat.le_trans H.base hgrow.size, ?_, OwnL.nil _ _, H.o9.keep hgrow H.a79.symm, fun g _ h2 => hnil g h2, ?_, fun g h1 => (hnil g h1).elim, ?_, fun _ => rfl, H.n9⟩, ?_⟩)
    · unfold OwnL; rw [List.length_append, List.map_append]; exact hown
    · exact (H.o9.far H.a79.symm hat).symm
    · intro e2; exact absurd (List.append_eq_nil_iff.1 e2).2 e
    · exact (hgrow.block g (Array.getElem?_eq_some_iff.1 hg).1 (fun e3 => H.o7.off hg e3.symm)).trans hg

theorem lowF_succ (n st : Int) (ps : List Int) (i : Nat) (hi : i < ps.length) : lowF n st (ps.take (i + 1)) = lowF n st (ps.take i) ++ if n ≤ ps[i] + st then [ps[i] + st - n] else [] := by
  unfold lowF
  rw [List.take_succ_eq_append_getElem hi, List.filter_append, List.map_append]
  by_cases h : n ≤ ps[i] + st
  · rw [if_pos h, List.filter_cons, List.filter_nil, decide_eq_true h]; rfl
  · rw [if_neg h, List.filter_cons, List.filter_nil, decide_eq_false h]; rfl
theorem highF_succ (n st : Int) (ps : List Int) (i : Nat) (hi : i < ps.length) : highF n st (ps.take (i + 1)) = highF n st (ps.take i) ++ if ps[i] + st < n then [ps[i] + st] else [] := by
  unfold highF
  rw [List.take_succ_eq_append_getElem hi, List.filter_append, List.map_append]
  by_cases h : n ≤ ps[i] + st
  · rw [if_neg (by omega), List.filter_cons, List.filter_nil, decide_eq_true h]; rfl
  · rw [if_pos (by omega), List.filter_cons, List.filter_nil, decide_eq_false h]; rfl
theorem lowO_succ (n st : Int) (ps : List Int) (i : Nat) (hi : i < ps.length) : lowO n st ps (i + 1) = lowO n st ps i ++ if n ≤ ps[i] + st then [(i : Int)] else [] := by
  unfold lowO
  have hg : ps.getD i 0 = ps[i] := by rw [List.getD_eq_getElem?_getD, List.getElem?_eq_getElem hi]; rfl
  rw [List.range_succ, List.filter_append, List.map_append, List.filter_cons, List.filter_nil, hg]
  by_cases h : n ≤ ps[i] + st
  · rw [if_pos h, decide_eq_true h]; rfl
  · rw [if_neg h, decide_eq_false h]; rfl
theorem highO_succ (n st : Int) (ps : List Int) (i : Nat) (hi : i < ps.length) : highO n st ps (i + 1) = highO n st ps i ++ if ps[i] + st < n then [(i : Int)] else [] := by
  unfold highO
  have hg : ps.getD i 0 = ps[i] := by rw [List.getD_eq_getElem?_getD, List.getElem?_eq_getElem hi]; rfl
  rw [List.range_succ, List.filter_append, List.map_append, List.filter_cons, List.filter_nil, hg]
  by_cases h : n ≤ ps[i] + st
  · rw [if_neg (show ¬ ps[i] + st < n by omega), decide_eq_true h]; rfl
  · rw [if_pos (show ps[i] + st < n by omega), decide_eq_false h]; rfl

theorem lt_of_adj (xs : List Int) (h : ∀ j (hj : j < xs.length), 0 < j → xs[j - 1]'(by omega) < xs[j]) : xs.Pairwise (· < ·) := by
  rw [List.pairwise_iff_getElem]
  intro i j hi hj hij
  induction j with
  | zero => omega
  | succ j ih =>
    have h1 := h (j + 1) hj (by omega)
    simp only [Nat.add_sub_cancel] at h1
    by_cases e : i = j
    · subst e; exact h1
    · exact Int.lt_trans (ih (by omega) (by omega)) h1
end Go.Proofs.YtibncdkekceokaaDoor
