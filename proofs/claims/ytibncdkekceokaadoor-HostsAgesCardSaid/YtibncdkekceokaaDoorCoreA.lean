/- CoreA: joined of: Base, Rings, Rules, RulesA, Lib, RulesB, Halves. -/
import Derived.Test.YtibncdkekceokaaDoorProg
import Derived.WalkKit
import Derived.WalkSpells
import Derived.WalkLawsBesides
import Derived.Outline
import Derived.Lib.Hide
import Derived.Deep.QuietTactic
import Derived.BigQuiet
import Derived.Deep.RegionHeld3
import Derived.StillTailTactics
import Derived.Deep.DeepCutAuto
/- The words that all texts of this seat share: small facts on worlds, and on integers. -/
namespace Go.Proofs.YtibncdkekceokaaDoor
open Go.RowKit

theorem below_drewN {B : Nat} {a w : World} (h : Below B a w) (k : Nat) : Below B a (w.drewN k) := ⟨h.os, h.tape, h.output, h.size, h.block⟩
theorem below_drawn (w : World) (k : Nat) : Below w.heap.size w (w.drewN k) := below_drewN (Below.refl _ _) k

theorem grown_drewN (w : World) (k : Nat) (row : Option Nat) : w.grownBy (w.drewN k) row := ⟨rfl, rfl, rfl, Nat.le_refl _, fun _ _ _ => rfl⟩
theorem own_drewN {w : World} {base : Nat} {e : TypeId} {size : Nat} {v : Value} {n : Nat} {xs : List Value} (h : w.ownsRow base e size v n xs) (k : Nat) : (w.drewN k).ownsRow base e size v n xs :=
  h.kept (grown_drewN w k none) (by cases v.ownBlock <;> simp)
theorem own_below {w w' : World} {base : Nat} {e : TypeId} {size : Nat} {v : Value} {n : Nat} {xs : List Value} (h : w.ownsRow base e size v n xs) (hb : Below w.heap.size w w') : w'.ownsRow base e size v n xs :=
  h.kept ⟨hb.os, hb.tape, hb.output, hb.size, fun k hk _ => hb.block k hk⟩ (by cases v.ownBlock <;> simp : v.ownBlock = none ∨ v.ownBlock ≠ none)

/-- The cells of a new block, as an append's law asks for them. -/
theorem new_cells (w : World) (vs : Array Value) (T : TypeId) (g : Nat) (hg : g = w.heap.size) (l : List Value) (hl : vs.toList = l) : ∀ j u, l[j]? = some u → (w.alloc (.cells vs T)).cell? ((⟨g, 0, none⟩ : Addr).add j) = some u := by
  intro j u hu
  have e : (⟨g, 0, none⟩ : Addr).add j = ⟨g, j, none⟩ := by unfold Addr.add; split <;> simp_all
  rw [e, World.cell?_alloc_at _ _ _ _ hg]
  subst hl
  simpa using hu

/-- The table of signs reads as it was laid. -/
structure Signs (w : World) : Prop where
  s0 : w.cell? ⟨1, 0, none⟩ = some (.int .i64 1)
  s1 : w.cell? ⟨1, 1, none⟩ = some (.int .i64 (-1))
  lt : 1 < w.heap.size

theorem Signs.below {w w' : World} (h : Signs w) (hb : Below w.heap.size w w') : Signs w' :=
  ⟨(hb.cell (p := ⟨1, 0, none⟩) h.lt).trans h.s0, (hb.cell (p := ⟨1, 1, none⟩) h.lt).trans h.s1, Nat.lt_of_lt_of_le h.lt hb.size⟩

theorem ret_int {k : IntKind} {a b : Int} (h : a = b) : Ending.returned (.int k a) = .returned (.int k b) := by rw [h]
theorem ret_bool {a b : Bool} (h : a = b) : Ending.returned (.bool a) = .returned (.bool b) := by rw [h]

theorem Signs.drawn {w : World} (h : Signs w) (k : Nat) : Signs (w.drewN k) := h.below ⟨rfl, rfl, rfl, Nat.le_refl _, fun _ _ => rfl⟩
/-- A slice whose elements are one cell each reads as a list. -/
structure Reads {α : Type} (w : World) (enc : α → Value) (a : Option Addr) (n : Nat) (xs : List α) : Prop where
  len : xs.length = n
  small : n ≤ 9223372036854775807
  cells : ∀ i (h : i < n), ∃ b off, a = some ⟨b, off, none⟩ ∧ w.cell? ⟨b, off + i, none⟩ = some (enc (xs[i]'(by omega)))
theorem Reads.below {α : Type} {w w' : World} {enc : α → Value} {a : Option Addr} {n : Nat} {xs : List α} (h : Reads w enc a n xs) (hb : Below w.heap.size w w') : Reads w' enc a n xs :=
  ⟨h.len, h.small, fun i hi => by
    obtain ⟨b, off, ha, hc⟩ := h.cells i hi
    exact ⟨b, off, ha, (hb.cell (World.block_lt_of_cell? w _ hc)).trans hc⟩⟩
theorem Reads.drawn {α : Type} {w : World} {enc : α → Value} {a : Option Addr} {n : Nat} {xs : List α} (h : Reads w enc a n xs) (k : Nat) : Reads (w.drewN k) enc a n xs :=
  h.below (below_drawn w k)
theorem Reads.drew {α : Type} {w : World} {enc : α → Value} {a : Option Addr} {n : Nat} {xs : List α} (h : Reads w enc a n xs) : Reads w.drew enc a n xs :=
  h.below (Below.refl _ _).drew
theorem Reads.base {α : Type} {w : World} {enc : α → Value} {a : Option Addr} {n : Nat} {xs : List α} (h : Reads w enc a n xs) (h0 : 0 < n) :
    ∃ b off, a = some ⟨b, off, none⟩ ∧ ∀ i (hi : i < n), w.cell? ⟨b, off + i, none⟩ = some (enc (xs[i]'(by have := h.len; omega))) := by
  obtain ⟨b, off, ha, _⟩ := h.cells 0 h0
  refine ⟨b, off, ha, fun i hi => ?_⟩
  obtain ⟨b', off', ha', hc'⟩ := h.cells i hi
  rw [ha] at ha'
  injection ha' with ha'
  injection ha' with e1 e2
  subst e1 e2
  exact hc'
/-- What every slice value meets. -/
structure SliceOK (a : Option Addr) (n cap : Nat) : Prop where
  le : n ≤ cap
  nil : a = none → n = 0 ∧ cap = 0
  addr : ∀ ad, a = some ad → ∃ b off, ad = ⟨b, off, none⟩
/-- The elements, as an append's law asks for them. -/
theorem Reads.news {α : Type} {w : World} {enc : α → Value} {b off n : Nat} {xs : List α} (h : Reads w enc (some ⟨b, off, none⟩) n xs) : ∀ j u, (xs.map enc)[j]? = some u → w.cell? ((⟨b, off, none⟩ : Addr).add j) = some u := by
  intro j u hu
  have e : (⟨b, off, none⟩ : Addr).add j = ⟨b, off + j, none⟩ := by unfold Addr.add; split <;> simp_all
  rw [e]
  rw [List.getElem?_map] at hu
  by_cases hj : j < n
  · obtain ⟨b', off', h1, h2⟩ := h.cells j hj
    simp only [Option.some.injEq, Addr.mk.injEq, and_true] at h1
    obtain ⟨rfl, rfl⟩ := h1
    rw [List.getElem?_eq_getElem (by rw [h.len]; exact hj)] at hu
    rw [h2]
    simpa using hu
  · rw [List.getElem?_eq_none (by rw [h.len]; omega)] at hu
    cases hu
/-- A row that the call owns is a slice, with its length at most its room. -/
theorem own_slice {w : World} {base : Nat} {e : TypeId} {size : Nat} {v : Value} {n : Nat} {xs : List Value} (h : w.ownsRow base e size v n xs) : ∃ a cap, v = .slice a n cap ∧ SliceOK a n cap := by
  rcases h.2 with ⟨rfl, rfl⟩ | ⟨g, cap, cur, rfl, _, _, hc, _⟩
  · exact ⟨none, 0, rfl, Nat.le_refl _, fun _ => ⟨rfl, rfl⟩, fun _ h => by cases h⟩
  · exact ⟨_, cap, rfl, hc, (fun h => by cases h), fun _ h => by cases h; exact ⟨g, 0, rfl⟩⟩
/-- How an int stands in a cell. -/
def eI (x : Int) : Value := .int .i64 x
/-- What a new block's cells read as. -/
theorem reads_new {α : Type} (w : World) (vs : Array Value) (T : TypeId) (g : Nat) (hg : g = w.heap.size) (xs : List α) {enc : α → Value} {n : Nat} (hl : vs.toList = xs.map enc) (hn : xs.length = n) (hs : n ≤ 9223372036854775807) : Reads (w.alloc (.cells vs T)) enc (some ⟨g, 0, none⟩) n xs :=
  ⟨hn, hs, fun i hi => ⟨g, 0, rfl, by
    rw [World.cell?_alloc_at _ _ _ _ hg, Nat.zero_add, ← Array.getElem?_toList, hl]
    simp [hn, hi]⟩⟩
/-- A slice of stations (three cells each) reads as a list: at which node, safe, hold. -/
structure ReadsSt (w : World) (a : Option Addr) (n : Nat) (xs : List (Int × Int × Int)) : Prop where
  len : xs.length = n
  small : n ≤ 9223372036854775807
  cells : ∀ i (h : i < n), ∃ b off, a = some ⟨b, off, none⟩ ∧ w.cell? ⟨b, off + i * 3, none⟩ = some (.int .i64 (xs[i]'(by omega)).1) ∧ w.cell? ⟨b, off + i * 3 + 1, none⟩ = some (.int .u32 (xs[i]'(by omega)).2.1) ∧ w.cell? ⟨b, off + i * 3 + 2, none⟩ = some (.int .i64 (xs[i]'(by omega)).2.2)
theorem ReadsSt.below {w w' : World} {a : Option Addr} {n : Nat} {xs : List (Int × Int × Int)} (h : ReadsSt w a n xs) (hb : Below w.heap.size w w') : ReadsSt w' a n xs :=
  ⟨h.len, h.small, fun i hi => by
    obtain ⟨b, off, ha, h0, h1, h2⟩ := h.cells i hi
    exact ⟨b, off, ha, (hb.cell (World.block_lt_of_cell? w _ h0)).trans h0, (hb.cell (World.block_lt_of_cell? w _ h1)).trans h1, (hb.cell (World.block_lt_of_cell? w _ h2)).trans h2⟩⟩
/-- A slice that the call owns, with no room behind: its cells are 'cs', in a block from lo on. -/
def OwnV (w : World) (lo : Nat) (e : TypeId) (size : Nat) (v : Value) (n : Nat) (cs : List Value) : Prop :=
  (v = .slice none 0 0 ∧ n = 0 ∧ cs = []) ∨ ∃ g cur, v = .slice (some ⟨g, 0, none⟩) n n ∧ lo ≤ g ∧ w.heap[g]? = some (.cells cur e (0, 0)) ∧ cs.length = n * size ∧ n * size ≤ cur.size ∧ cur.toList.take (n * size) = cs
theorem OwnV.of_own {w : World} {lo : Nat} {e : TypeId} {size : Nat} {a : Option Addr} {n cap : Nat} {cs : List Value} (h : w.ownsRow lo e size (.slice a n cap) n cs) : OwnV w lo e size (.slice a n n) n cs := by
  obtain ⟨h1, ⟨hv, rfl⟩ | ⟨g, cap', cur, hv, hb, hg, r1, r2, r3, r4⟩⟩ := h
  · simp only [Value.slice.injEq] at hv
    obtain ⟨rfl, _, rfl⟩ := hv
    exact .inl ⟨rfl, rfl, List.eq_nil_of_length_eq_zero (by simpa using h1)⟩
  · simp only [Value.slice.injEq] at hv
    obtain ⟨rfl, _, rfl⟩ := hv
    exact .inr ⟨g, cur, rfl, hb, hg, h1, by rw [r3]; exact Nat.mul_le_mul_right _ r1, r4⟩
/-- It stands as long as its block does. -/
theorem OwnV.kept {w w' : World} {lo : Nat} {e : TypeId} {size : Nat} {v : Value} {n : Nat} {cs : List Value} (h : OwnV w lo e size v n cs) (hk : ∀ g, lo ≤ g → g < w.heap.size → w'.heap[g]? = w.heap[g]?) : OwnV w' lo e size v n cs := by
  rcases h with h | ⟨g, cur, hv, hb, hg, rest⟩
  · exact .inl h
  · exact .inr ⟨g, cur, hv, hb, (hk g hb (Array.getElem?_eq_some_iff.1 hg).1).trans hg, rest⟩
theorem OwnV.below {w w' : World} {lo : Nat} {e : TypeId} {size : Nat} {v : Value} {n : Nat} {cs : List Value} (h : OwnV w lo e size v n cs) (hb : Below w.heap.size w w') : OwnV w' lo e size v n cs :=
  h.kept fun g _ hg => hb.block g hg
theorem OwnV.mono {w : World} {lo lo' : Nat} {e : TypeId} {size : Nat} {v : Value} {n : Nat} {cs : List Value} (h : OwnV w lo e size v n cs) (hl : lo' ≤ lo) : OwnV w lo' e size v n cs := by
  rcases h with h | ⟨g, cur, hv, hb, rest⟩
  · exact .inl h
  · exact .inr ⟨g, cur, hv, Nat.le_trans hl hb, rest⟩
theorem OwnV.value {w : World} {lo : Nat} {e : TypeId} {size : Nat} {v : Value} {n : Nat} {cs : List Value} (h : OwnV w lo e size v n cs) : ∃ a, v = .slice a n n ∧ SliceOK a n n := by
  rcases h with ⟨rfl, rfl, _⟩ | ⟨g, cur, rfl, _⟩
  · exact ⟨none, rfl, Nat.le_refl _, fun _ => ⟨rfl, rfl⟩, fun _ h => by cases h⟩
  · exact ⟨_, rfl, Nat.le_refl _, (fun h => by cases h), fun _ h => by cases h; exact ⟨g, 0, rfl⟩⟩
/-- .. and the block lies below hi. -/
def OwnIn (w : World) (lo hi : Nat) (e : TypeId) (size : Nat) (v : Value) (n : Nat) (cs : List Value) : Prop := OwnV w lo e size v n cs ∧ ∀ g, v.ownBlock = some g → g < hi
theorem OwnIn.kept {w w' : World} {lo hi : Nat} {e : TypeId} {size : Nat} {v : Value} {n : Nat} {cs : List Value} (h : OwnIn w lo hi e size v n cs) (hk : ∀ g, lo ≤ g → g < w.heap.size → w'.heap[g]? = w.heap[g]?) : OwnIn w' lo hi e size v n cs := ⟨h.1.kept hk, h.2⟩
theorem OwnIn.below {w w' : World} {lo hi : Nat} {e : TypeId} {size : Nat} {v : Value} {n : Nat} {cs : List Value} (h : OwnIn w lo hi e size v n cs) (hb : Below w.heap.size w w') : OwnIn w' lo hi e size v n cs := ⟨h.1.below hb, h.2⟩
theorem OwnIn.of_own {w : World} {lo : Nat} {e : TypeId} {size : Nat} {a : Option Addr} {n cap : Nat} {cs : List Value} (h : w.ownsRow lo e size (.slice a n cap) n cs) : OwnIn w lo w.heap.size e size (.slice a n n) n cs :=
  ⟨.of_own h, fun g hg => by
    have : (Value.slice a n cap).ownBlock = some g := by
      rw [← hg]
      cases a <;> rfl
    exact (h.lt g this).2⟩
theorem heap_set_same {w : World} {b : Nat} {c : Array Value} {e : TypeId} {fr : Nat × Nat} (h : w.heap[b]? = some (.cells c e fr)) (i : Nat) (v : Value) : (w.setCell ⟨b, i, none⟩ v).heap[b]? = some (.cells (c.setIfInBounds i v) e fr) := by
  simp [World.setCell, Array.getElem?_modify, h]
theorem heap_cell {w : World} {b : Nat} {c : Array Value} {e : TypeId} {fr : Nat × Nat} (h : w.heap[b]? = some (.cells c e fr)) (i : Nat) : w.cell? ⟨b, i, none⟩ = c[i]? := by
  simp [World.cell?, h]
theorem heap_thawed {w : World} {b : Nat} {c : Array Value} {e : TypeId} (h : w.heap[b]? = some (.cells c e (0, 0))) (i : Nat) : w.frozen? ⟨b, i, none⟩ = false := by
  simp [World.frozen?, h]
theorem heap_new (w : World) (o : Obj) (b : Nat) (h : b = w.heap.size) : (w.alloc o).heap[b]? = some o := by subst h; exact heap_alloc_new w o
/-- How a station stands in its three cells. -/
def eSt (s : Int × Int × Int) : List Value := [.int .i64 s.1, .int .u32 s.2.1, .int .i64 s.2.2]
theorem flat3_get (xs : List (Int × Int × Int)) : ∀ j, (xs.flatMap eSt)[j]? = (xs[j / 3]?).bind fun s => (eSt s)[j % 3]? := by
  induction xs with
  | nil => intro j; simp
  | cons s r ih =>
    intro j
    rw [List.flatMap_cons]
    match j with
    | 0 => simp [eSt]
    | 1 => simp [eSt]
    | 2 => simp [eSt]
    | k + 3 =>
      rw [List.getElem?_append_right (by simp [eSt])]
      have e1 : k + 3 - (eSt s).length = k := by simp [eSt]
      have e2 : (k + 3) / 3 = k / 3 + 1 := by omega
      have e3 : (k + 3) % 3 = k % 3 := by omega
      rw [e1, e2, e3, ih k, List.getElem?_cons_succ]
theorem flat3_length (xs : List (Int × Int × Int)) : (xs.flatMap eSt).length = xs.length * 3 := by
  induction xs with
  | nil => rfl
  | cons s r ih => rw [List.flatMap_cons, List.length_append, ih]; simp [eSt]; omega
theorem ReadsSt.news {w : World} {b off n : Nat} {xs : List (Int × Int × Int)} (h : ReadsSt w (some ⟨b, off, none⟩) n xs) : ∀ j u, (xs.flatMap eSt)[j]? = some u → w.cell? ((⟨b, off, none⟩ : Addr).add j) = some u := by
  intro j u hu
  have e : (⟨b, off, none⟩ : Addr).add j = ⟨b, off + j, none⟩ := by unfold Addr.add; split <;> simp_all
  rw [e]
  rw [flat3_get] at hu
  by_cases hj : j / 3 < n
  · obtain ⟨b', off', h1, h2, h3, h4⟩ := h.cells (j / 3) hj
    simp only [Option.some.injEq, Addr.mk.injEq, and_true] at h1
    obtain ⟨rfl, rfl⟩ := h1
    rw [List.getElem?_eq_getElem (by rw [h.len]; exact hj), Option.bind_some] at hu
    have hc : j % 3 = 0 ∨ j % 3 = 1 ∨ j % 3 = 2 := by omega
    rcases hc with hc | hc | hc
    · rw [hc] at hu
      rw [show off + j = off + j / 3 * 3 by omega, h2]
      simpa [eSt] using hu
    · rw [hc] at hu
      rw [show off + j = off + j / 3 * 3 + 1 by omega, h3]
      simpa [eSt] using hu
    · rw [hc] at hu
      rw [show off + j = off + j / 3 * 3 + 2 by omega, h4]
      simpa [eSt] using hu
  · rw [List.getElem?_eq_none (by rw [h.len]; omega)] at hu
    cases hu
/-- A contract of a function that leaves the world alone, met in a quiet region. -/
theorem calls_flip {P : Program} {f : FuncId} {args : Array Value} {w : World} {v : Value} (h : Calls P f args w fun e w' => e = .returned v ∧ w' = w) : Calls P f args w fun e w' => e = .returned v ∧ w = w' :=
  h.mono fun _ _ ⟨he, hm⟩ => ⟨he, hm.symm⟩
theorem still_eq {P : Program} {f : FuncId} {args : Array Value} {w : World} {v : Value}
    (h : Calls P f args w fun e w' => e = .returned v ∧ w = w') : Calls P f args w fun e w' => e = .returned v ∧ w' = w :=
  h.mono fun _ _ ⟨he, hm⟩ => ⟨he, hm.symm⟩
theorem quiet_eq {P : Program} {f : FuncId} {args : Array Value} {w : World} {n : Nat} {v : Value}
    (h : Calls P f args (w.drewN n) fun e w' => e = .returned v ∧ w.drewN n = w') : Calls P f args (w.drewN n) fun e w'' => e = .returned v ∧ ∃ m, w'' = w.drewN m :=
  h.mono fun _ _ ⟨he, hm⟩ => ⟨he, n, hm.symm⟩

end Go.Proofs.YtibncdkekceokaaDoor

/- rings: the contracts of its functions. -/
namespace Go.Proofs.YtibncdkekceokaaDoor
open Go.RowKit

def ringB (n d : Int) : Bool := decide (4 ≤ n ∧ n ≤ 16 ∧ d ≤ 1)
def nodeB (n i : Int) : Bool := decide (0 ≤ i ∧ i < n)
theorem ringB_true {n d : Int} (h : ringB n d = true) : 4 ≤ n ∧ n ≤ 16 ∧ d ≤ 1 := by simpa [ringB] using h
theorem nodeB_true {n i : Int} (h : nodeB n i = true) : 0 ≤ i ∧ i < n := by simpa [nodeB] using h

theorem ring_any (n d : Int) (w : World) :
    Calls Tryd.prog 82 #[.int .i64 n, .int .u8 d] w fun e w' => e = .returned (.bool (ringB n d)) ∧ w = w' := by
  go_enter Tryd.func82, Tryd.ntmps82
  go_wp2
  all_goals (go_ret; refine ⟨ret_bool ?_, rfl⟩; simp [ringB, *]; try omega)
theorem node_any (n i : Int) (w : World) :
    Calls Tryd.prog 83 #[.int .i64 n, .int .i64 i] w fun e w' => e = .returned (.bool (nodeB n i)) ∧ w = w' := by
  go_enter Tryd.func83, Tryd.ntmps83
  go_wp2
  all_goals (go_ret; refine ⟨ret_bool ?_, rfl⟩; simp [nodeB]; try omega)

theorem round_eq (n i : Int) (hn : 4 ≤ n) (hn' : n ≤ 16) : (wrap64 (i.tmod n + n)).tmod n = i % n := by
  have h1 := Int.tmod_lt_of_pos i (show 0 < n by omega)
  have h2 : -n < i.tmod n := by
    have := Int.tmod_lt_of_pos (-i) (show 0 < n by omega)
    rw [Int.neg_tmod] at this; omega
  have e : wrap64 (i.tmod n + n) = i.tmod n + n := by unfold wrap64; omega
  rw [e, Int.tmod_eq_emod_of_nonneg (by omega), Int.add_emod_right, Int.tmod_def]
  exact Int.sub_mul_emod_self_left i n _
theorem round_any (n i : Int) (w : World) (hn : 4 ≤ n) (hn' : n ≤ 16) :
    Calls Tryd.prog 84 #[.int .i64 n, .int .i64 i] w fun e w' => e = .returned (.int .i64 (i % n)) ∧ w = w' := by
  go_enter Tryd.func84, Tryd.ntmps84
  go_wp2
  go_ret
  exact ⟨ret_int (round_eq n i hn hn'), rfl⟩

theorem small_tmod (n s : Int) (hn : 4 ≤ n) (h1 : -2 ≤ s) (h2 : s ≤ 2) : s.tmod n = s := by
  rcases Int.le_total 0 s with h | h
  · rw [Int.tmod_eq_emod_of_nonneg h]; exact Int.emod_eq_of_lt h (by omega)
  · have : (-s).tmod n = -s := by rw [Int.tmod_eq_emod_of_nonneg (by omega)]; exact Int.emod_eq_of_lt (by omega) (by omega)
    rw [Int.neg_tmod] at this; omega
/-- Step, as a number. -/
def stepF (n d at_ steps : Int) : Int := if ringB n d = true ∧ nodeB n at_ = true then (if d = 0 then (at_ + steps) % n else (at_ - steps) % n) else -1
set_option maxHeartbeats 1000000 in
theorem step_no (n d at_ steps : Int) (w : World) (h : ¬ (ringB n d = true ∧ nodeB n at_ = true)) :
    Calls Tryd.prog 79 #[.int .i64 n, .int .u8 d, .int .i64 at_, .int .i64 steps] w fun e w' => e = .returned (.int .i64 (-1)) ∧ w = w' := by
  cases h1 : ringB n d with
  | false =>
    go_enter Tryd.func79, Tryd.ntmps79
    go_wp2_with (first | (go_at_call 82; refine (ring_any _ _ _).mono ?_; rintro e w' ⟨rfl, rfl⟩))
    go_ret
    exact ⟨rfl, rfl⟩
  | true =>
    have h2 : nodeB n at_ = false := by
      cases h2 : nodeB n at_ with
      | false => rfl
      | true => exact absurd ⟨h1, h2⟩ h
    clear h
    go_enter Tryd.func79, Tryd.ntmps79
    go_wp2_with (first | (go_at_call 82; refine (ring_any _ _ _).mono ?_; rintro e w' ⟨rfl, rfl⟩) | (go_at_call 83; refine (node_any _ _ _).mono ?_; rintro e w' ⟨rfl, rfl⟩))
    go_ret
    exact ⟨rfl, rfl⟩
theorem step_yes (n d at_ steps : Int) (w : World) (h1 : ringB n d = true) (h2 : nodeB n at_ = true) (hd : d = 0 ∨ d = 1) (l1 : -2 ≤ steps) (l2 : steps ≤ 2) (hs : Signs w) :
    Calls Tryd.prog 79 #[.int .i64 n, .int .u8 d, .int .i64 at_, .int .i64 steps] w fun e w' => e = .returned (.int .i64 (if d = 0 then (at_ + steps) % n else (at_ - steps) % n)) ∧ ∃ k, w' = w.drewN k := by
  have b1 := ringB_true h1
  have b2 := nodeB_true h2
  have c0 := hs.s0
  have c1 := hs.s1
  have n4 := b1.1
  have n16 := b1.2.1
  have z0 : ¬ n = 0 := by omega
  have z1 : (n == 0) = false := by simpa using z0
  have e0 := small_tmod n steps b1.1 l1 l2
  have p1 := b2.1
  have p2 := b2.2
  clear b1 b2
  rcases hd with rfl | rfl
  · go_enter Tryd.func79, Tryd.ntmps79
    go_wp2_with (first | (go_at_call 82; refine (ring_any _ _ _).mono ?_; rintro e w' ⟨rfl, rfl⟩) | (go_at_call 83; refine (node_any _ _ _).mono ?_; rintro e w' ⟨rfl, rfl⟩))
    go_quiet ((go_at_call 84; exact quiet_eq (round_any _ _ _ (by omega) (by omega))))
    go_wp2
    go_ret
    exact ⟨ret_int (by first | rfl | (show _ % n = _ % n; congr 1; omega)), _, rfl⟩
  · go_enter Tryd.func79, Tryd.ntmps79
    go_wp2_with (first | (go_at_call 82; refine (ring_any _ _ _).mono ?_; rintro e w' ⟨rfl, rfl⟩) | (go_at_call 83; refine (node_any _ _ _).mono ?_; rintro e w' ⟨rfl, rfl⟩))
    go_quiet ((go_at_call 84; exact quiet_eq (round_any _ _ _ (by omega) (by omega))))
    go_wp2
    go_ret
    exact ⟨ret_int (by first | rfl | (show _ % n = _ % n; congr 1; omega)), _, rfl⟩
theorem step_any (n d at_ steps : Int) (w : World) (hd : 0 ≤ d) (l1 : -2 ≤ steps) (l2 : steps ≤ 2) (hs : Signs w) :
    Calls Tryd.prog 79 #[.int .i64 n, .int .u8 d, .int .i64 at_, .int .i64 steps] w fun e w' => e = .returned (.int .i64 (stepF n d at_ steps)) ∧ ∃ k, w' = w.drewN k := by
  unfold stepF
  by_cases h : ringB n d = true ∧ nodeB n at_ = true
  · rw [if_pos h]
    have := ringB_true h.1
    exact step_yes n d at_ steps w h.1 h.2 (by omega) l1 l2 hs
  · rw [if_neg h]
    exact (step_no n d at_ steps w h).mono fun _ _ ⟨he, hw⟩ => ⟨he, 0, hw ▸ rfl⟩

def distF (n d a b : Int) : Int := if ringB n d = true ∧ nodeB n a = true ∧ nodeB n b = true then (if d = 0 then (b - a) % n else (a - b) % n) else -1
set_option maxHeartbeats 1000000 in
theorem dist_no (n d a b : Int) (w : World) (h : ¬ (ringB n d = true ∧ nodeB n a = true ∧ nodeB n b = true)) :
    Calls Tryd.prog 44 #[.int .i64 n, .int .u8 d, .int .i64 a, .int .i64 b] w fun e w' => e = .returned (.int .i64 (-1)) ∧ w = w' := by
  cases h1 : ringB n d with
  | false =>
    clear h
    go_enter Tryd.func44, Tryd.ntmps44
    go_wp2_with (first | (go_at_call 82; refine (ring_any _ _ _).mono ?_; rintro e w' ⟨rfl, rfl⟩))
    go_ret
    exact ⟨rfl, rfl⟩
  | true =>
    cases h2 : nodeB n a with
    | false =>
      clear h
      go_enter Tryd.func44, Tryd.ntmps44
      go_wp2_with (first | (go_at_call 82; refine (ring_any _ _ _).mono ?_; rintro e w' ⟨rfl, rfl⟩) | (go_at_call 83; refine (node_any _ _ _).mono ?_; rintro e w' ⟨rfl, rfl⟩))
      go_ret
      exact ⟨rfl, rfl⟩
    | true =>
      have h3 : nodeB n b = false := by
        cases h3 : nodeB n b with
        | false => rfl
        | true => exact absurd ⟨h1, h2, h3⟩ h
      clear h
      go_enter Tryd.func44, Tryd.ntmps44
      go_wp2_with (first | (go_at_call 82; refine (ring_any _ _ _).mono ?_; rintro e w' ⟨rfl, rfl⟩) | (go_at_call 83; refine (node_any _ _ _).mono ?_; rintro e w' ⟨rfl, rfl⟩))
      go_ret
      exact ⟨rfl, rfl⟩
set_option maxHeartbeats 1000000 in
theorem dist_yes (n d a b : Int) (w : World) (h1 : ringB n d = true) (h2 : nodeB n a = true) (h3 : nodeB n b = true) (hd : d = 0 ∨ d = 1) (hs : Signs w) :
    Calls Tryd.prog 44 #[.int .i64 n, .int .u8 d, .int .i64 a, .int .i64 b] w fun e w' => e = .returned (.int .i64 (if d = 0 then (b - a) % n else (a - b) % n)) ∧ ∃ k, w' = w.drewN k := by
  have b1 := ringB_true h1
  have b2 := nodeB_true h2
  have b3 := nodeB_true h3
  have c0 := hs.s0
  have c1 := hs.s1
  have n4 := b1.1
  have n16 := b1.2.1
  have p1 := b2.1
  have p2 := b2.2
  have q1 := b3.1
  have q2 := b3.2
  clear b1 b2 b3
  rcases hd with rfl | rfl
  · go_enter Tryd.func44, Tryd.ntmps44
    go_wp2_with (first | (go_at_call 82; refine (ring_any _ _ _).mono ?_; rintro e w' ⟨rfl, rfl⟩) | (go_at_call 83; refine (node_any _ _ _).mono ?_; rintro e w' ⟨rfl, rfl⟩) | (go_at_call 84; refine (round_any _ _ _ (by omega) (by omega)).mono ?_; rintro e w' ⟨rfl, rfl⟩))
    go_ret
    exact ⟨ret_int (by first | rfl | (show _ % n = _ % n; congr 1; omega)), 0, rfl⟩
  · go_enter Tryd.func44, Tryd.ntmps44
    go_wp2_with (first | (go_at_call 82; refine (ring_any _ _ _).mono ?_; rintro e w' ⟨rfl, rfl⟩) | (go_at_call 83; refine (node_any _ _ _).mono ?_; rintro e w' ⟨rfl, rfl⟩) | (go_at_call 84; refine (round_any _ _ _ (by omega) (by omega)).mono ?_; rintro e w' ⟨rfl, rfl⟩))
    go_ret
    exact ⟨ret_int (by first | rfl | (show _ % n = _ % n; congr 1; omega)), 0, rfl⟩
theorem dist_any (n d a b : Int) (w : World) (hd : 0 ≤ d) (hs : Signs w) :
    Calls Tryd.prog 44 #[.int .i64 n, .int .u8 d, .int .i64 a, .int .i64 b] w fun e w' => e = .returned (.int .i64 (distF n d a b)) ∧ ∃ k, w' = w.drewN k := by
  unfold distF
  by_cases h : ringB n d = true ∧ nodeB n a = true ∧ nodeB n b = true
  · rw [if_pos h]
    have := ringB_true h.1
    exact dist_yes n d a b w h.1 h.2.1 h.2.2 (by omega) hs
  · rw [if_neg h]
    exact (dist_no n d a b w h).mono fun _ _ ⟨he, hw⟩ => ⟨he, 0, hw ▸ rfl⟩

def placeF (n d f a : Int) : Int := distF n d (if d = 1 then stepF n 0 f 1 else f) a
theorem place_any (n d f a : Int) (w : World) (hd : 0 ≤ d) (hs : Signs w) :
    Calls Tryd.prog 85 #[.int .i64 n, .int .u8 d, .int .i64 f, .int .i64 a] w fun e w' => e = .returned (.int .i64 (placeF n d f a)) ∧ ∃ k, w' = w.drewN k := by
  by_cases h : d = 1
  · subst h
    go_enter Tryd.func85, Tryd.ntmps85
    go_wp2_with (first | (go_at_call 79; refine (step_any _ _ _ _ _ (by omega) (by omega) (by omega) hs).mono ?_; rintro e w' ⟨rfl, k1, rfl⟩) | (go_at_call 44; refine (dist_any _ _ _ _ _ (by omega) (hs.drawn _)).mono ?_; rintro e w' ⟨rfl, k2, rfl⟩))
    go_ret
    exact ⟨rfl, _, rfl⟩
  · have h1 : (d == 1) = false := by simpa using h
    go_enter Tryd.func85, Tryd.ntmps85
    go_wp2_with (first | (go_at_call 44; refine (dist_any _ _ _ _ _ (by omega) hs).mono ?_; rintro e w' ⟨rfl, k2, rfl⟩))
    go_ret
    exact ⟨by simp [placeF, h], _, rfl⟩

def hopsB (h : Int) : Bool := decide (h = 1 ∨ h = 2)
theorem hops_any (h : Int) (w : World) :
    Calls Tryd.prog 87 #[.int .i64 h] w fun e w' => e = .returned (.bool (hopsB h)) ∧ w = w' := by
  by_cases h1 : h = 1
  · subst h1
    go_enter Tryd.func87, Tryd.ntmps87
    go_wp2
    go_ret
    exact ⟨rfl, rfl⟩
  · have h2 : (h == 1) = false := by simpa using h1
    go_enter Tryd.func87, Tryd.ntmps87
    go_wp2
    go_ret
    exact ⟨ret_bool (by rw [Bool.eq_iff_iff]; simp [hopsB, h1]), rfl⟩
def sourceF (n d a h : Int) : Int := if hopsB h = true then stepF n d a (-h) else -1
theorem source_any (n d a h : Int) (w : World) (hd : 0 ≤ d) (hs : Signs w) :
    Calls Tryd.prog 57 #[.int .i64 n, .int .u8 d, .int .i64 a, .int .i64 h] w fun e w' => e = .returned (.int .i64 (sourceF n d a h)) ∧ ∃ k, w' = w.drewN k := by
  unfold sourceF
  cases hb : hopsB h with
  | false =>
    go_enter Tryd.func57, Tryd.ntmps57
    go_wp2_with (go_at_call 87; refine (hops_any _ _).mono ?_; rintro e w' ⟨rfl, rfl⟩)
    go_ret
    exact ⟨rfl, 0, rfl⟩
  | true =>
    have hh : h = 1 ∨ h = 2 := by simpa [hopsB] using hb
    have g1 : 1 ≤ h := by omega
    have g2 : h ≤ 2 := by omega
    clear hh
    go_enter Tryd.func57, Tryd.ntmps57
    go_wp2_with (first | (go_at_call 87; refine (hops_any _ _).mono ?_; rintro e w' ⟨rfl, rfl⟩) | (go_at_call 79; refine (step_any _ _ _ _ _ (by omega) (by omega) (by omega) hs).mono ?_; rintro e w' ⟨rfl, k1, rfl⟩))
    go_ret
    exact ⟨rfl, _, rfl⟩
end Go.Proofs.YtibncdkekceokaaDoor

/- configs: the small functions under its rules. -/
namespace Go.Proofs.YtibncdkekceokaaDoor
open Go.RowKit

def withinE (x lo hi : Int) : Int := if hi < x then 3 else if x < lo then 1 else 0
theorem within_any (x lo hi : Int) (w : World) :
    Calls Tryd.prog 96 #[.int .i64 x, .int .i64 lo, .int .i64 hi] w fun e w' => e = .returned (.int .i64 (withinE x lo hi)) ∧ w = w' := by
  go_enter Tryd.func96, Tryd.ntmps96
  go_wp2
  all_goals (go_ret; refine ⟨ret_int ?_, rfl⟩; simp [withinE, *])
  all_goals omega
def mustE (b : Bool) : Int := if b then 0 else 1
theorem must_any (b : Bool) (w : World) :
    Calls Tryd.prog 99 #[.bool b] w fun e w' => e = .returned (.int .i64 (mustE b)) ∧ w = w' := by
  cases b <;>
  · go_enter Tryd.func99, Tryd.ntmps99
    go_wp2
    go_ret
    exact ⟨rfl, rfl⟩

def eachE : List Int → Int → Int → Int
  | [], _, _ => 0
  | x :: r, lo, hi => if withinE x lo hi = 0 then eachE r lo hi else withinE x lo hi
theorem each_any (a : Option Addr) (n cap : Nat) (xs : List Int) (lo hi : Int) (w : World) (hr : Reads w eI a n xs) :
    Calls Tryd.prog 109 #[.slice a n cap, .int .i64 lo, .int .i64 hi] w fun e w' => e = .returned (.int .i64 (eachE xs lo hi)) ∧ w = w' := by
  have hsm := hr.small
  go_enter Tryd.func109, Tryd.ntmps109
  go_wp2
  go_loop [12] (fun i => ∃ k : Nat, k ≤ n ∧ i = .int .i64 k ∧ eachE (xs.drop k) lo hi = eachE xs lo hi) (fun i => n - (intOf i).toNat)
  case atStart => exact ⟨0, Nat.zero_le _, rfl, rfl⟩
  case round =>
    obtain ⟨k, hk, rfl, he⟩ := hrel
    by_cases hlt : k < n
    · obtain ⟨b, off, rfl, hc⟩ := hr.cells k hlt
      have hd := List.drop_eq_getElem_cons (l := xs) (i := k) (by have := hr.len; omega)
      have HE : Hid (eachE (xs.drop k) lo hi = eachE xs lo hi) := he
      have HD : Hid _ := hd
      clear he hd
      generalize hx : xs[k]'(by have := hr.len; omega) = x at hc HD
      unfold eI at hc
      clear hx
      go_wp2_with (go_at_call 96; refine (within_any _ _ _ _).mono ?_; rintro e w' ⟨rfl, rfl⟩)
      · have hne : (withinE x lo hi != 0) = true := by assumption
        go_ret
        refine ⟨ret_int ?_, rfl⟩
        rw [← HE.out, HD.out, eachE, if_neg (by simpa using hne)]
      · have heq : (withinE x lo hi != 0) = false := by assumption
        go_round
        case rel =>
          refine ⟨k + 1, by omega, by go_num, ?_⟩
          have h2 := HE.out
          rw [HD.out, eachE, if_pos (by simpa using heq)] at h2
          exact h2
        case measure => simp [intOf]; omega
    · go_wp2
      go_ret
      exact ⟨ret_int (by rw [← he, List.drop_of_length_le (by have := hr.len; omega)]; rfl), rfl⟩

/-- The first of some errors that is one. -/
def firstE : List Int → Int
  | [] => 0
  | x :: r => if x = 0 then firstE r else x
theorem first1_any (x : Int) (w : World) :
    Calls Tryd.prog 130 #[.int .i64 x] w fun e w' => e = .returned (.bool (x != 0)) ∧ w = w' := by
  go_enter Tryd.func130, Tryd.ntmps130
  go_wp2
  go_ret
  exact ⟨rfl, rfl⟩

/-- slices.IndexFunc at errors, of the function that asks whether it is one. -/
theorem indexErr_any (a : Option Addr) (n cap : Nat) (xs : List Int) (w : World) (hr : Reads w eI a n xs) :
    Calls Tryd.prog 129 #[.slice a n cap, .func (.func 130) #[] #[]] w fun e w' => (∃ i : Int, e = .returned (.int .i64 i) ∧ ((i = -1 ∧ firstE xs = 0) ∨ (∃ k : Nat, i = k ∧ ∃ h : k < xs.length, xs[k] = firstE xs))) ∧ w = w' := by
  have hsm := hr.small
  have hlen := Lib.hid hr.len
  go_enter Tryd.func129, Tryd.ntmps129
  go_wp2
  go_loop [8] (fun i => ∃ k : Nat, k ≤ n ∧ i = .int .i64 k ∧ firstE (xs.drop k) = firstE xs) (fun i => n - (intOf i).toNat)
  case atStart => exact ⟨0, Nat.zero_le _, rfl, rfl⟩
  case round =>
    obtain ⟨k, hk, rfl, he⟩ := hrel
    have HE := Lib.hid he
    clear he
    by_cases hlt : k < n
    · obtain ⟨b, off, rfl, hc⟩ := hr.cells k hlt
      have HD := Lib.hid (List.drop_eq_getElem_cons (l := xs) (i := k) (by have := hr.len; omega))
      generalize hx : xs[k]'(by have := hr.len; omega) = x at hc HD
      have HX := Lib.hid hx
      clear hx
      unfold eI at hc
      go_wp2_with (go_at_call 130; refine (first1_any _ _).mono ?_; rintro e w' ⟨rfl, rfl⟩)
      · have hne : (x != 0) = true := by assumption
        go_ret
        refine ⟨⟨k, rfl, .inr ⟨k, rfl, by have := hr.len; omega, ?_⟩⟩, rfl⟩
        rw [← HE.out, HD.out, firstE, if_neg (by simpa using hne)]
        exact HX.out
      · have heq : (x != 0) = false := by assumption
        go_round
        case rel =>
          refine ⟨k + 1, by omega, by go_num, ?_⟩
          have h2 := HE.out
          rw [HD.out, firstE, if_pos (by simpa using heq)] at h2
          exact h2
        case measure => simp [intOf]; omega
    · go_wp2
      go_ret
      refine ⟨⟨_, rfl, .inl ⟨rfl, ?_⟩⟩, rfl⟩
      rw [← HE.out, List.drop_of_length_le (by have := hr.len; omega)]; rfl
theorem first_any (a : Option Addr) (n cap : Nat) (xs : List Int) (w : World) (hr : Reads w eI a n xs) :
    Calls Tryd.prog 108 #[.slice a n cap] w fun e w' => e = .returned (.int .i64 (firstE xs)) ∧ w = w' := by
  go_enter Tryd.func108, Tryd.ntmps108
  go_wp2_with fail
  refine (indexErr_any _ _ _ xs _ hr).mono ?_
  rintro e w' ⟨⟨i, rfl, hi⟩, rfl⟩
  rcases hi with ⟨rfl, h0⟩ | ⟨k, rfl, hk, hx⟩
  · have H0 := Lib.hid h0
    clear h0
    go_wp2
    go_ret
    exact ⟨ret_int H0.out.symm, rfl⟩
  · have hlt : k < n := by have := hr.len; omega
    obtain ⟨b, off, rfl, hc⟩ := hr.cells k hlt
    have HX := Lib.hid hx
    rw [hx] at hc
    unfold eI at hc
    clear hx
    have hsm := hr.small
    go_wp2
    go_ret
    exact ⟨rfl, rfl⟩

/-- configs.inside's predicate: does a number lie outside? -/
theorem inside1_any (x m : Int) (c : Nat) (w : World) (hc : w.cell? ⟨c, 0, none⟩ = some (.int .i64 m)) :
    Calls Tryd.prog 123 #[.int .i64 x, .pointer (some ⟨c, 0, none⟩)] w fun e w' => e = .returned (.bool (decide (x < 0 ∨ m ≤ x))) ∧ ∃ k, w' = w.drewN k := by
  by_cases h : x < 0
  · go_enter Tryd.func123, Tryd.ntmps123
    go_wp2
    go_ret
    exact ⟨ret_bool (by simp [h]), 0, rfl⟩
  · have h1 : decide (x < 0) = false := by simpa using h
    have h2 : 0 ≤ x := by omega
    go_enter Tryd.func123, Tryd.ntmps123
    go_wp2
    go_ret
    exact ⟨ret_bool (by simp), 0, rfl⟩
/-- slices.IndexFunc at ints, of that predicate. -/
theorem indexIns_any (a : Option Addr) (n cap : Nat) (xs : List Int) (m : Int) (c : Nat) (w : World) (hc0 : w.cell? ⟨c, 0, none⟩ = some (.int .i64 m)) (hr : Reads w eI a n xs) :
    Calls Tryd.prog 133 #[.slice a n cap, .func (.func 123) #[] #[.pointer (some ⟨c, 0, none⟩)]] w fun e w' => (∃ i : Int, e = .returned (.int .i64 i) ∧ (0 ≤ i ↔ ∃ x ∈ xs, x < 0 ∨ m ≤ x)) ∧ ∃ k, w' = w.drewN k := by
  have hsm := hr.small
  have hlen := Lib.hid hr.len
  go_enter Tryd.func133, Tryd.ntmps133
  go_wp2
  go_loopw [8] (fun i wr => ∃ k q : Nat, k ≤ n ∧ i = .int .i64 k ∧ (∀ x ∈ xs.take k, 0 ≤ x ∧ x < m) ∧ wr = w.drewN q) (fun i _ => n - (intOf i).toNat)
  case atStart => exact ⟨0, 0, Nat.zero_le _, rfl, by simp, rfl⟩
  case round =>
    obtain ⟨k, q, hk, rfl, he, rfl⟩ := hrel
    have HE := Lib.hid he
    clear he
    by_cases hlt : k < n
    · obtain ⟨b, off, rfl, hc⟩ := (hr.drawn q).cells k hlt
      have HT := Lib.hid (List.take_succ_eq_append_getElem (l := xs) (i := k) (by have := hr.len; omega))
      have HM := Lib.hid (List.getElem_mem (l := xs) (n := k) (by have := hr.len; omega))
      generalize hx : xs[k]'(by have := hr.len; omega) = x at hc HT HM
      clear hx
      unfold eI at hc
      have hcc : (w.drewN q).cell? ⟨c, 0, none⟩ = some (.int .i64 m) := hc0
      go_wp2_with (go_at_call 123; refine (inside1_any _ _ _ _ hcc).mono ?_; rintro e w' ⟨rfl, q2, rfl⟩)
      · have ht : x < 0 ∨ m ≤ x := by assumption
        go_ret
        refine ⟨⟨_, rfl, ?_⟩, _, rfl⟩
        constructor
        · intro _; exact ⟨x, HM.out, ht⟩
        · intro _; omega
      · have ht : 0 ≤ x ∧ x < m := by assumption
        go_roundw
        case rel =>
          refine ⟨k + 1, _, by omega, by go_num, ?_, rfl⟩
          intro y hy
          rw [HT.out] at hy
          rcases List.mem_append.1 hy with h | h
          · exact HE.out y h
          · rw [List.mem_singleton.1 h]; exact ht
        case measure => simp [intOf]; omega
    · go_wp2
      go_ret
      refine ⟨⟨_, rfl, ?_⟩, _, rfl⟩
      have := HE.out
      rw [List.take_of_length_le (by have := hr.len; omega)] at this
      constructor
      · intro h; omega
      · rintro ⟨x, hx, h⟩
        have := this x hx
        omega

def insideB (xs : List Int) (m : Int) : Bool := decide (∀ x ∈ xs, 0 ≤ x ∧ x < m)
theorem containsIns_any (a : Option Addr) (n cap : Nat) (xs : List Int) (m : Int) (c : Nat) (w : World) (hc0 : w.cell? ⟨c, 0, none⟩ = some (.int .i64 m)) (hr : Reads w eI a n xs) :
    Calls Tryd.prog 122 #[.slice a n cap, .func (.func 123) #[] #[.pointer (some ⟨c, 0, none⟩)]] w fun e w' => e = .returned (.bool (!insideB xs m)) ∧ ∃ k, w' = w.drewN k := by
  go_enter Tryd.func122, Tryd.ntmps122
  go_wp2_with fail
  refine (indexIns_any _ _ _ xs m c _ hc0 hr).mono ?_
  rintro e w' ⟨⟨i, rfl, hi⟩, q, rfl⟩
  have HI := Lib.hid hi
  clear hi
  go_wp2
  go_ret
  refine ⟨ret_bool ?_, _, rfl⟩
  rw [Bool.eq_iff_iff]
  have := HI.out
  simp only [insideB, Bool.not_eq_true', decide_eq_true_eq, decide_eq_false_iff_not]
  rw [this]
  constructor
  · rintro ⟨x, hx, h⟩ hall
    have := hall x hx
    omega
  · intro h
    apply Classical.byContradiction
    intro hno
    apply h
    intro x hx
    apply Classical.byContradiction
    intro h2
    exact hno ⟨x, hx, by omega⟩
theorem inside_any (a : Option Addr) (n cap : Nat) (xs : List Int) (m : Int) (w : World) (hr : Reads w eI a n xs) :
    Calls Tryd.prog 100 #[.slice a n cap, .int .i64 m] w fun e w' => e = .returned (.bool (insideB xs m)) ∧ Below w.heap.size w w' := by
  have hb := (Below.refl w.heap.size w).alloc (Nat.le_refl _) (.cells #[.int .i64 m] 3)
  go_enter Tryd.func100, Tryd.ntmps100
  go_wp2_with fail
  refine (containsIns_any _ _ _ xs m _ _ (by simp [go_sem]) (hr.below hb)).mono ?_
  rintro e w' ⟨rfl, q, rfl⟩
  go_wp2
  go_ret
  exact ⟨ret_bool (by simp), below_drewN hb q⟩
end Go.Proofs.YtibncdkekceokaaDoor




/- configs.rules: the contracts of those rules that are short. -/
namespace Go.Proofs.YtibncdkekceokaaDoor
open Go.RowKit

theorem rule1_any (nodes long miss good fresh : Int) (pa sa ba ta : Option Addr) (pn pc sn sc bn bc tn tc : Nat) (w : World) :
    Calls Tryd.prog 95 #[.agg #[.int .i64 nodes, .slice pa pn pc, .slice sa sn sc, .int .i64 long, .slice ba bn bc, .slice ta tn tc, .int .i64 miss, .int .i64 good, .int .i64 fresh]] w fun e w' => e = .returned (.int .i64 (withinE nodes 4 16)) ∧ Below w.heap.size w w' := by
  have hb := (Below.refl w.heap.size w).alloc (Nat.le_refl _) (.cells #[.int .i64 nodes, .slice pa pn pc, .slice sa sn sc, .int .i64 long, .slice ba bn bc, .slice ta tn tc, .int .i64 miss, .int .i64 good, .int .i64 fresh] 25)
  go_enter Tryd.func95, Tryd.ntmps95
  go_wp2_with (go_at_call 96; refine (within_any _ _ _ _).mono ?_; rintro e w' ⟨rfl, rfl⟩)
  go_ret
  exact ⟨rfl, hb⟩
theorem rule2_any (nodes long miss good fresh : Int) (pa sa ba ta : Option Addr) (pn pc sn sc bn bc tn tc : Nat) (w : World) :
    Calls Tryd.prog 97 #[.agg #[.int .i64 nodes, .slice pa pn pc, .slice sa sn sc, .int .i64 long, .slice ba bn bc, .slice ta tn tc, .int .i64 miss, .int .i64 good, .int .i64 fresh]] w fun e w' => e = .returned (.int .i64 (withinE pn 2 8)) ∧ Below w.heap.size w w' := by
  have hb := (Below.refl w.heap.size w).alloc (Nat.le_refl _) (.cells #[.int .i64 nodes, .slice pa pn pc, .slice sa sn sc, .int .i64 long, .slice ba bn bc, .slice ta tn tc, .int .i64 miss, .int .i64 good, .int .i64 fresh] 25)
  go_enter Tryd.func97, Tryd.ntmps97
  go_wp2_with (go_at_call 96; refine (within_any _ _ _ _).mono ?_; rintro e w' ⟨rfl, rfl⟩)
  go_ret
  exact ⟨rfl, hb⟩
theorem rule4_any (nodes long miss good fresh : Int) (pa sa ba ta : Option Addr) (pn pc sn sc bn bc tn tc : Nat) (w : World) :
    Calls Tryd.prog 103 #[.agg #[.int .i64 nodes, .slice pa pn pc, .slice sa sn sc, .int .i64 long, .slice ba bn bc, .slice ta tn tc, .int .i64 miss, .int .i64 good, .int .i64 fresh]] w fun e w' => e = .returned (.int .i64 (withinE sn 1 16)) ∧ Below w.heap.size w w' := by
  have hb := (Below.refl w.heap.size w).alloc (Nat.le_refl _) (.cells #[.int .i64 nodes, .slice pa pn pc, .slice sa sn sc, .int .i64 long, .slice ba bn bc, .slice ta tn tc, .int .i64 miss, .int .i64 good, .int .i64 fresh] 25)
  go_enter Tryd.func103, Tryd.ntmps103
  go_wp2_with (go_at_call 96; refine (within_any _ _ _ _).mono ?_; rintro e w' ⟨rfl, rfl⟩)
  go_ret
  exact ⟨rfl, hb⟩
theorem rule8_any (nodes long miss good fresh : Int) (pa sa ba ta : Option Addr) (pn pc sn sc bn bc tn tc : Nat) (w : World) :
    Calls Tryd.prog 110 #[.agg #[.int .i64 nodes, .slice pa pn pc, .slice sa sn sc, .int .i64 long, .slice ba bn bc, .slice ta tn tc, .int .i64 miss, .int .i64 good, .int .i64 fresh]] w fun e w' => e = .returned (.int .i64 (withinE tn 0 8)) ∧ Below w.heap.size w w' := by
  have hb := (Below.refl w.heap.size w).alloc (Nat.le_refl _) (.cells #[.int .i64 nodes, .slice pa pn pc, .slice sa sn sc, .int .i64 long, .slice ba bn bc, .slice ta tn tc, .int .i64 miss, .int .i64 good, .int .i64 fresh] 25)
  go_enter Tryd.func110, Tryd.ntmps110
  go_wp2_with (go_at_call 96; refine (within_any _ _ _ _).mono ?_; rintro e w' ⟨rfl, rfl⟩)
  go_ret
  exact ⟨rfl, hb⟩
theorem rule6_any (nodes long miss good fresh : Int) (pa sa ba ta : Option Addr) (pn pc sn sc bn bc tn tc : Nat) (w : World) (h4 : 4 ≤ nodes) (h16 : nodes ≤ 16) :
    Calls Tryd.prog 106 #[.agg #[.int .i64 nodes, .slice pa pn pc, .slice sa sn sc, .int .i64 long, .slice ba bn bc, .slice ta tn tc, .int .i64 miss, .int .i64 good, .int .i64 fresh]] w fun e w' => e = .returned (.int .i64 (withinE long (max (3 * nodes + 1) (nodes + 116)) 4096)) ∧ Below w.heap.size w w' := by
  have hb := (Below.refl w.heap.size w).alloc (Nat.le_refl _) (.cells #[.int .i64 nodes, .slice pa pn pc, .slice sa sn sc, .int .i64 long, .slice ba bn bc, .slice ta tn tc, .int .i64 miss, .int .i64 good, .int .i64 fresh] 25)
  go_enter Tryd.func106, Tryd.ntmps106
  go_wp2_with (go_at_call 96; refine (within_any _ _ _ _).mono ?_; rintro e w' ⟨rfl, rfl⟩)
  go_ret
  exact ⟨ret_int (by rw [show max (3 * nodes + 1) (nodes + 116) = nodes + 114 + 2 by omega]), hb⟩
theorem rule10_any (nodes long miss good fresh : Int) (pa sa ba ta : Option Addr) (pn pc sn sc bn bc tn tc : Nat) (w : World) :
    Calls Tryd.prog 112 #[.agg #[.int .i64 nodes, .slice pa pn pc, .slice sa sn sc, .int .i64 long, .slice ba bn bc, .slice ta tn tc, .int .i64 miss, .int .i64 good, .int .i64 fresh]] w fun e w' => e = .returned (.int .i64 (eachE [miss, good, fresh] 1 100)) ∧ Below w.heap.size w w' := by
  have hb := (Below.refl w.heap.size w).alloc (Nat.le_refl _) (.cells #[.int .i64 nodes, .slice pa pn pc, .slice sa sn sc, .int .i64 long, .slice ba bn bc, .slice ta tn tc, .int .i64 miss, .int .i64 good, .int .i64 fresh] 25)
  go_enter Tryd.func112, Tryd.ntmps112
  go_wp2_with fail
  refine (each_any _ _ _ [miss, good, fresh] _ _ _ (reads_new _ _ _ _ (by simp) [miss, good, fresh] rfl rfl (by simp))).mono ?_
  rintro e w' ⟨rfl, rfl⟩
  go_wp2
  go_ret
  exact ⟨rfl, hb.alloc (by simp) _⟩
theorem rule7_any (nodes long miss good fresh : Int) (pa sa ba ta : Option Addr) (pn pc sn sc bn bc tn tc : Nat) (bs : List Int) (w : World) (hr : Reads w eI ba bn bs) :
    Calls Tryd.prog 107 #[.agg #[.int .i64 nodes, .slice pa pn pc, .slice sa sn sc, .int .i64 long, .slice ba bn bc, .slice ta tn tc, .int .i64 miss, .int .i64 good, .int .i64 fresh]] w fun e w' => e = .returned (.int .i64 (firstE [mustE ((bn : Int) == nodes), eachE bs 0 4096])) ∧ Below w.heap.size w w' := by
  have hb := (Below.refl w.heap.size w).alloc (Nat.le_refl _) (.cells #[.int .i64 nodes, .slice pa pn pc, .slice sa sn sc, .int .i64 long, .slice ba bn bc, .slice ta tn tc, .int .i64 miss, .int .i64 good, .int .i64 fresh] 25)
  go_enter Tryd.func107, Tryd.ntmps107
  go_wp2
  go_region_held3 (fun W => W.cell? ⟨w.heap.size, 0, none⟩ = some (.int .i64 nodes) ∧ W.cell? ⟨w.heap.size, 4, none⟩ = some (.slice ba bn bc) ∧ Below w.heap.size w W) (refine ⟨?_, ?_, ?_⟩ <;> first | (go_keep; done) | exact hb.drew | exact (hb.alloc (by simp) _).drew)
    (first | (go_at_call 99; refine (must_any _ _).mono ?_; rintro e w' ⟨rfl, rfl⟩) | (go_at_call 109; refine (each_any _ _ _ bs _ _ _ ?_).mono ?_; (exact hr.below hb.drew); rintro e w' ⟨rfl, rfl⟩) | (go_at_call 108; refine (first_any _ _ _ [mustE ((bn : Int) == nodes), eachE bs 0 4096] _ ?_).mono ?_; (exact Reads.drew (reads_new _ _ _ _ (by simp) _ rfl rfl (by simp))); rintro e w' ⟨rfl, rfl⟩) | fail)
  all_goals (go_wp2; go_ret; exact ⟨rfl, (hb.alloc (by simp) _).drew⟩)
end Go.Proofs.YtibncdkekceokaaDoor

/- slices and cmp at ints: IsSorted, Index, Contains. -/
namespace Go.Proofs.YtibncdkekceokaaDoor
open Go.RowKit

theorem isNaN_any (x : Int) (w : World) :
    Calls Tryd.prog 134 #[.int .i64 x] w fun e w' => e = .returned (.bool false) ∧ w = w' := by
  go_enter Tryd.func134, Tryd.ntmps134
  go_wp2
  go_ret
  exact ⟨by simp, rfl⟩
theorem less_any (x y : Int) (w : World) :
    Calls Tryd.prog 124 #[.int .i64 x, .int .i64 y] w fun e w' => e = .returned (.bool (decide (x < y))) ∧ w = w' := by
  go_enter Tryd.func124, Tryd.ntmps124
  go_wp2_with (go_at_call 134; refine (isNaN_any _ _).mono ?_; rintro e w' ⟨rfl, rfl⟩)
  all_goals (go_ret; exact ⟨by simp, rfl⟩)

/-- Is a list sorted, as slices.IsSorted looks? -/
def sortedB (xs : List Int) : Bool := decide (xs.Pairwise (· ≤ ·))
theorem pairwise_of_adj (xs : List Int) (h : ∀ j (h : j + 1 < xs.length), xs[j] ≤ xs[j + 1]) : xs.Pairwise (· ≤ ·) := by
  rw [List.pairwise_iff_getElem]
  intro i j hi hj hij
  induction j with
  | zero => omega
  | succ j ih =>
    have h1 := h j hj
    by_cases e : i = j
    · subst e; exact h1
    · exact Int.le_trans (ih (by omega) (by omega)) h1

theorem isSorted_any (a : Option Addr) (n cap : Nat) (xs : List Int) (w : World) (hr : Reads w eI a n xs) :
    Calls Tryd.prog 101 #[.slice a n cap] w fun e w' => e = .returned (.bool (sortedB xs)) ∧ ∃ k, w' = w.drewN k := by
  have hsm := hr.small
  have hlen := Lib.hid hr.len
  go_enter Tryd.func101, Tryd.ntmps101
  go_wp2
  go_loopw [3] (fun i wr => ∃ (z : Int) (q : Nat), i = .int .i64 z ∧ -1 ≤ z ∧ z < n ∧ (∀ (j : Nat) (h : j + 1 < xs.length), z ≤ j → xs[j] ≤ xs[j + 1]) ∧ wr = w.drewN q) (fun i _ => (intOf i).toNat)
  case atStart =>
    refine ⟨(n : Int) - 1, 0, rfl, by omega, by omega, ?_, rfl⟩
    intro j h hz
    have := hlen.out
    omega
  case round =>
    obtain ⟨z, q, rfl, hz1, hz2, hs, hwr⟩ := hrel
    have HW := Lib.hid hwr
    have hrw : Reads wr eI a n xs := by rw [hwr]; exact hr.drawn q
    clear hwr
    have HS := Lib.hid hs
    clear hs
    by_cases hlt : 0 < z
    · obtain ⟨k, rfl⟩ : ∃ k : Nat, z = (k : Int) + 1 := ⟨(z - 1).toNat, by omega⟩
      obtain ⟨b, off, rfl, hc⟩ := hrw.base (by omega)
      have hc1 := hc (k + 1) (by omega)
      have hc0 := hc k (by omega)
      clear hc
      generalize hx : xs[k + 1]'(by have := hlen.out; omega) = x at hc1
      generalize hy : xs[k]'(by have := hlen.out; omega) = y at hc0
      have HX := Lib.hid hx
      have HY := Lib.hid hy
      clear hx hy
      unfold eI at hc0 hc1
      have b0 : 0 ≤ (k : Int) + 1 := by omega
      have b1 : (k : Int) + 1 < n := hz2
      have b2 : (k : Int) < n := by omega
      have b3 : ((k : Int) + 1).toNat = k + 1 := by omega
      have b4 : IntKind.i64.wrap ((k : Int) + 1 - 1) = (k : Int) := by rw [IntKind.wrap_i64]; omega
      clear hz1
      go_wp2
      go_quiet ((go_at_call 124; exact quiet_eq (less_any _ _ _)))
      go_wp2
      · have ht : x < y := by assumption
        go_ret
        refine ⟨ret_bool ?_, _, by rw [HW.out]; exact World.drewN_drewN ..⟩
        symm
        simp only [sortedB, decide_eq_false_iff_not]
        intro hp
        have := List.pairwise_iff_getElem.1 hp k (k + 1) (by have := hlen.out; omega) (by have := hlen.out; omega) (by omega)
        rw [HX.out, HY.out] at this
        exact absurd ht (Int.not_lt.2 this)
      · have ht : y ≤ x := by assumption
        go_roundw
        case rel =>
          refine ⟨k, _, rfl, by omega, by omega, ?_, by rw [HW.out]; exact World.drewN_drewN ..⟩
          intro j h hz
          by_cases e : j = k
          · subst e
            rw [HX.out, HY.out]
            exact ht
          · have h9 : (k : Int) + 1 ≤ j := by omega
            exact HS.out j h h9
        case measure => simp [intOf]
    · go_wp2
      go_ret
      refine ⟨ret_bool ?_, _, HW.out⟩
      symm
      simp only [sortedB, decide_eq_true_eq]
      exact pairwise_of_adj xs fun j h => HS.out j h (by omega)

theorem index_any (a : Option Addr) (n cap : Nat) (xs : List Int) (m : Int) (w : World) (hr : Reads w eI a n xs) :
    Calls Tryd.prog 128 #[.slice a n cap, .int .i64 m] w fun e w' => (∃ i : Int, e = .returned (.int .i64 i) ∧ (0 ≤ i ↔ m ∈ xs)) ∧ w = w' := by
  have hsm := hr.small
  have hlen := Lib.hid hr.len
  go_enter Tryd.func128, Tryd.ntmps128
  go_wp2
  go_loop [8] (fun i => ∃ k : Nat, k ≤ n ∧ i = .int .i64 k ∧ ¬ m ∈ xs.take k) (fun i => n - (intOf i).toNat)
  case atStart => exact ⟨0, Nat.zero_le _, rfl, by simp⟩
  case round =>
    obtain ⟨k, hk, rfl, he⟩ := hrel
    have HE := Lib.hid he
    clear he
    by_cases hlt : k < n
    · obtain ⟨b, off, rfl, hc⟩ := hr.cells k hlt
      have HT := Lib.hid (List.take_succ_eq_append_getElem (l := xs) (i := k) (by have := hr.len; omega))
      have HM := Lib.hid (List.getElem_mem (l := xs) (n := k) (by have := hr.len; omega))
      generalize hx : xs[k]'(by have := hr.len; omega) = x at hc HT HM
      clear hx
      unfold eI at hc
      go_wp2
      · have ht : (m == x) = true := by assumption
        go_ret
        refine ⟨⟨_, rfl, ?_⟩, rfl⟩
        constructor
        · intro _; have := HM.out; rw [show m = x by simpa using ht]; exact this
        · intro _; omega
      · have ht : (m == x) = false := by assumption
        go_round
        case rel =>
          refine ⟨k + 1, by omega, by go_num, ?_⟩
          intro hy
          rw [HT.out] at hy
          rcases List.mem_append.1 hy with h | h
          · exact HE.out h
          · have := List.mem_singleton.1 h
            simp [this] at ht
        case measure => simp [intOf]; omega
    · go_wp2
      go_ret
      refine ⟨⟨_, rfl, ?_⟩, rfl⟩
      have := HE.out
      rw [List.take_of_length_le (by have := hr.len; omega)] at this
      constructor
      · intro h; omega
      · intro h; exact absurd h this
theorem contains_any (a : Option Addr) (n cap : Nat) (xs : List Int) (m : Int) (w : World) (hr : Reads w eI a n xs) :
    Calls Tryd.prog 105 #[.slice a n cap, .int .i64 m] w fun e w' => e = .returned (.bool (decide (m ∈ xs))) ∧ w = w' := by
  go_enter Tryd.func105, Tryd.ntmps105
  go_wp2_with fail
  refine (index_any _ _ _ xs m _ hr).mono ?_
  rintro e w' ⟨⟨i, rfl, hi⟩, rfl⟩
  have HI := Lib.hid hi
  clear hi
  go_wp2
  go_ret
  refine ⟨ret_bool ?_, rfl⟩
  rw [Bool.eq_iff_iff]
  simpa using HI.out
end Go.Proofs.YtibncdkekceokaaDoor

/- configs.rules: those with a loop of their own. -/
namespace Go.Proofs.YtibncdkekceokaaDoor
open Go.RowKit

/-- Each slot is some pair's, each pair has one. -/
def slotsB (ss : List Int) (m : Nat) : Bool := insideB ss m && decide (∀ p : Nat, p < m → (p : Int) ∈ ss)
theorem slots_succ (ss : List Int) (m k : Nat) : (insideB ss m && decide (∀ p : Nat, p < k + 1 → (p : Int) ∈ ss)) = ((insideB ss m && decide (∀ p : Nat, p < k → (p : Int) ∈ ss)) && decide ((k : Int) ∈ ss)) := by
  rw [Bool.and_assoc]
  congr 1
  rw [Bool.eq_iff_iff]
  simp only [Bool.and_eq_true, decide_eq_true_eq]
  constructor
  · intro h; exact ⟨fun p hp => h p (by omega), h k (by omega)⟩
  · rintro ⟨h1, h2⟩ p hp
    by_cases e : p = k
    · subst e; exact h2
    · exact h1 p (by omega)
set_option maxHeartbeats 1000000 in
theorem rule5_any (nodes long miss good fresh : Int) (pa sa ba ta : Option Addr) (pn pc sn sc bn bc tn tc : Nat) (ss : List Int) (w : World) (hr : Reads w eI sa sn ss) (hpn : pn ≤ 1000000) :
    Calls Tryd.prog 104 #[.agg #[.int .i64 nodes, .slice pa pn pc, .slice sa sn sc, .int .i64 long, .slice ba bn bc, .slice ta tn tc, .int .i64 miss, .int .i64 good, .int .i64 fresh]] w fun e w' => e = .returned (.int .i64 (mustE (slotsB ss pn))) ∧ Below w.heap.size w w' := by
  have hb := (Below.refl w.heap.size w).alloc (Nat.le_refl _) (.cells #[.int .i64 nodes, .slice pa pn pc, .slice sa sn sc, .int .i64 long, .slice ba bn bc, .slice ta tn tc, .int .i64 miss, .int .i64 good, .int .i64 fresh] 25)
  go_enter Tryd.func104, Tryd.ntmps104
  go_wp2_with fail
  refine (inside_any _ _ _ ss _ _ (hr.below hb)).mono ?_
  rintro e w1 ⟨rfl, hb1⟩
  simp only [World.size_alloc] at hb1
  have c1 : w1.cell? ⟨w.heap.size, 1, none⟩ = some (.slice pa pn pc) := (hb1.cell (p := ⟨w.heap.size, 1, none⟩) (by simp)).trans (by simp [go_sem])
  have c2 : w1.cell? ⟨w.heap.size, 2, none⟩ = some (.slice sa sn sc) := (hb1.cell (p := ⟨w.heap.size, 2, none⟩) (by simp)).trans (by simp [go_sem])
  have hbb : Below w.heap.size w w1 := hb.trans (hb1.mono (by omega))
  have hr1 := hr.below hbb
  have HB := Lib.hid hbb
  clear hb hb1 hbb hr
  go_wp2
  go_loop [3, 14] (fun f i => ∃ (k : Nat) (g : Bool), k ≤ pn ∧ i = .int .i64 k ∧ f = .bool g ∧ g = (insideB ss pn && decide (∀ p : Nat, p < k → (p : Int) ∈ ss))) (fun _ i => pn - (intOf i).toNat)
  case atStart => exact ⟨0, _, Nat.zero_le _, rfl, rfl, by simp⟩
  case round =>
    obtain ⟨k, g, hk, rfl, rfl, hg⟩ := hrel
    have HG := Lib.hid hg
    have HS := Lib.hid (slots_succ ss pn k)
    clear hg
    by_cases hlt : k < pn
    · cases g
      · go_wp2
        go_round
        case rel => exact ⟨k + 1, false, by omega, by go_num, rfl, by rw [HS.out, ← HG.out]; rfl⟩
        case measure => simp [intOf]; omega
      · go_wp2_with (go_at_call 105; refine (contains_any _ _ _ ss _ _ hr1).mono ?_; rintro e w' ⟨rfl, rfl⟩)
        go_round
        case rel => exact ⟨k + 1, _, by omega, by go_num, rfl, by rw [HS.out, ← HG.out]; rfl⟩
        case measure => simp [intOf]; omega
    · go_wp2_with (go_at_call 99; refine (must_any _ _).mono ?_; rintro e w' ⟨rfl, rfl⟩)
      go_ret
      have e : k = pn := by omega
      subst e
      exact ⟨ret_int (by rw [HG.out]; rfl), HB.out⟩

/-- What is wrong with a station. -/
def stationE (n : Int) (s : Int × Int × Int) : Int := firstE [mustE (decide (0 ≤ s.1 ∧ s.1 < n)), withinE s.2.2 1 100]
def stationsE (n : Int) : List (Int × Int × Int) → Int
  | [] => 0
  | s :: r => if stationE n s = 0 then stationsE n r else stationE n s
set_option maxHeartbeats 2000000 in
set_option maxRecDepth 100000 in
theorem rule9_any (nodes long miss good fresh : Int) (pa sa ba ta : Option Addr) (pn pc sn sc bn bc tn tc : Nat) (ts : List (Int × Int × Int)) (w : World) (hr : ReadsSt w ta tn ts) :
    Calls Tryd.prog 111 #[.agg #[.int .i64 nodes, .slice pa pn pc, .slice sa sn sc, .int .i64 long, .slice ba bn bc, .slice ta tn tc, .int .i64 miss, .int .i64 good, .int .i64 fresh]] w fun e w' => e = .returned (.int .i64 (stationsE nodes ts)) ∧ Below w.heap.size w w' := by
  have hb := (Below.refl w.heap.size w).alloc (Nat.le_refl _) (.cells #[.int .i64 nodes, .slice pa pn pc, .slice sa sn sc, .int .i64 long, .slice ba bn bc, .slice ta tn tc, .int .i64 miss, .int .i64 good, .int .i64 fresh] 25)
  have hsm := hr.small
  have hlen := Lib.hid hr.len
  go_enter Tryd.func111, Tryd.ntmps111
  go_wp2
  go_loopw [9] (fun i wr => ∃ k : Nat, k ≤ tn ∧ i = .int .i64 k ∧ stationsE nodes (ts.drop k) = stationsE nodes ts ∧ wr.cell? ⟨w.heap.size, 0, none⟩ = some (.int .i64 nodes) ∧ w.heap.size + 1 ≤ wr.heap.size ∧ Below w.heap.size w wr) (fun i _ => tn - (intOf i).toNat)
  case atStart => exact ⟨0, Nat.zero_le _, rfl, rfl, by simp [go_sem], by simp, hb⟩
  case round =>
    obtain ⟨k, hk, rfl, he, hcn, hsz, hbl⟩ := hrel
    have HE := Lib.hid he
    clear he hb
    by_cases hlt : k < tn
    · obtain ⟨b, off, rfl, h0, h1, h2⟩ := (hr.below hbl).cells k hlt
      have HD := Lib.hid (List.drop_eq_getElem_cons (l := ts) (i := k) (by have := hr.len; omega))
      generalize hx : ts[k]'(by have := hr.len; omega) = x at h0 h1 h2 HD
      clear hx
      obtain ⟨nd, sf, ho⟩ := x
      simp only at h0 h1 h2
      have hsb : Below w.heap.size w (wr.alloc (.cells #[.int .i64 nd, .int .u32 sf, .int .i64 ho] 53)) := hbl.alloc (by omega) _
      by_cases hnd : 0 ≤ nd
      · have hnd1 : decide (0 ≤ nd) = true := by simpa using hnd
        go_wp2
        go_region_held3 (fun W => W.cell? ⟨w.heap.size, 0, none⟩ = some (.int .i64 nodes) ∧ W.cell? ⟨wr.heap.size, 0, none⟩ = some (.int .i64 nd) ∧ W.cell? ⟨wr.heap.size, 2, none⟩ = some (.int .i64 ho) ∧ Below w.heap.size w W) (refine ⟨?_, ?_, ?_, ?_⟩ <;> first | (go_keep; done) | exact hsb.drew | exact (hsb.alloc (by simp; omega) _).drew | fail)
          (first | (go_at_call 99; refine (must_any _ _).mono ?_; rintro e w' ⟨rfl, rfl⟩) | (go_at_call 96; refine (within_any _ _ _ _).mono ?_; rintro e w' ⟨rfl, rfl⟩) | (go_at_call 108; refine (first_any _ _ _ [mustE (decide (nd < nodes)), withinE ho 1 100] _ ?_).mono ?_; (exact Reads.drew (reads_new _ _ _ _ (by simp) _ rfl rfl (by simp))); rintro e w' ⟨rfl, rfl⟩) | fail)
        have ES := Lib.hid (show stationE nodes (nd, sf, ho) = firstE [mustE (decide (nd < nodes)), withinE ho 1 100] by simp [stationE, hnd])
        go_wp2
        · have hne : (firstE [mustE (decide (nd < nodes)), withinE ho 1 100] != 0) = true := by assumption
          go_ret
          refine ⟨ret_int ?_, (hsb.alloc (by simp; omega) _).drew⟩
          rw [← HE.out, HD.out, stationsE, ES.out, if_neg (by simpa using hne)]
        · have heq : (firstE [mustE (decide (nd < nodes)), withinE ho 1 100] != 0) = false := by assumption
          go_roundw
          case rel =>
            refine ⟨k + 1, by omega, by go_num, ?_, by go_keep, by simp; omega, (hsb.alloc (by simp; omega) _).drew⟩
            have h3 := HE.out
            rw [HD.out, stationsE, ES.out, if_pos (by simpa using heq)] at h3
            exact h3
          case measure => simp [intOf]; omega
      · have hnd2 : nd < 0 := by omega
        have hnd1 : decide (0 ≤ nd) = false := by simpa using hnd
        clear hnd
        go_wp2
        obtain ⟨W2, hW2⟩ : ∃ W2, W2 = (wr.alloc (.cells #[.int .i64 nd, .int .u32 sf, .int .i64 ho] 53)).drew := ⟨_, rfl⟩
        have q0 : W2.cell? ⟨wr.heap.size, 0, none⟩ = some (.int .i64 nd) := by rw [hW2]; go_keep
        have q2 : W2.cell? ⟨wr.heap.size, 2, none⟩ = some (.int .i64 ho) := by rw [hW2]; go_keep
        have q3 : W2.cell? ⟨w.heap.size, 0, none⟩ = some (.int .i64 nodes) := by rw [hW2]; go_keep
        have q4 : wr.heap.size + 1 = W2.heap.size := by rw [hW2]; simp
        have hsb2 : Below w.heap.size w W2 := by rw [hW2]; exact hsb.drew
        refine wp_region_still_tail 14 (by kernel_rfl) (by kernel_rfl) ?_
        change wpStill _ _ (wr.alloc (.cells #[.int .i64 nd, .int .u32 sf, .int .i64 ho] 53)).drew (fun a' => wpList _ _ _ _ a' (wr.alloc (.cells #[.int .i64 nd, .int .u32 sf, .int .i64 ho] 53)).drew) _ _
        rw [← hW2]
        have Q4 := Lib.hid q4
        clear hW2 q4
        simp only [List.take_succ_cons, List.take_zero, List.drop_succ_cons, List.drop_zero]
        repeat still_step
        still_call (still_eq (must_any _ _))
        repeat still_step
        still_call (still_eq (within_any _ _ _ _))
        repeat still_step
        refine wpStill_nil ?_
        have hsbA : ∀ o, Below w.heap.size w (W2.alloc o) := fun o => hsb2.alloc (by have := Q4.out; omega) o
        have q3A : ∀ o, (W2.alloc o).cell? ⟨w.heap.size, 0, none⟩ = some (.int .i64 nodes) := fun o => by rw [World.cell?_alloc_some _ _ _ (by rw [q3]; rfl)]; exact q3
        have HA := Lib.hid hsbA
        have HC := Lib.hid q3A
        clear hsbA q3A
        have ES := Lib.hid (show stationE nodes (nd, sf, ho) = firstE [mustE false, withinE ho 1 100] by simp [stationE, show ¬ 0 ≤ nd by omega])
        go_wp2_with (go_at_call 108; refine (first_any _ _ _ [mustE false, withinE ho 1 100] _ ?_).mono ?_; (exact reads_new _ _ _ _ rfl _ rfl rfl (by simp)); rintro e w' ⟨rfl, rfl⟩)
        · go_ret
          refine ⟨ret_int ?_, HA.out _⟩
          rw [← HE.out, HD.out, stationsE, ES.out, if_neg (by simp [firstE, mustE])]
    · go_wp2
      go_ret
      exact ⟨ret_int (by rw [← HE.out, List.drop_of_length_le (by have := hr.len; omega)]; rfl), hbl⟩
end Go.Proofs.YtibncdkekceokaaDoor

/- configs.halves: the halves of a config's pairs, one by one. -/
namespace Go.Proofs.YtibncdkekceokaaDoor
open Go.RowKit

theorem Tryd.infoInt : (Tryd.prog.info? 3).map (fun i => (i.zero, i.size, i.bytes)) = some (some (.int .i64 0), 1, 8) := by kernel_rfl

/-- The halves of some pairs. -/
def halvesL (n : Int) (ps : List Int) : List Int := ps.flatMap fun a => [a, stepF n 0 a 1]
theorem halvesL_snoc (n : Int) (l : List Int) (a : Int) : halvesL n (l ++ [a]) = halvesL n l ++ [a, stepF n 0 a 1] := by simp [halvesL]
theorem halvesL_length (n : Int) (l : List Int) : (halvesL n l).length = 2 * l.length := by
  induction l with
  | nil => rfl
  | cons a l ih => simp [halvesL] at ih ⊢; omega

/-- A round of the loop, in memory. -/
theorem halves_step {w wr w1 : World} {nodes x : Int} {ps : List Int} {k q pn : Nat} {v v' : Value} (_hl : ps.length = pn) (_hk : k < pn) (_h0 : 0 ≤ k)
    (hown : wr.ownsRow (w.heap.size + 1) 3 1 v (2 * k) ((halvesL nodes (ps.take k)).map eI)) (hcn : wr.cell? ⟨w.heap.size, 0, none⟩ = some (.int .i64 nodes)) (hsz : w.heap.size + 1 ≤ wr.heap.size) (hbl : Below w.heap.size w wr)
    (ht : ps.take (k + 1) = ps.take k ++ [x])
    (hown' : w1.ownsRow (w.heap.size + 1) 3 1 v' (2 * k + 2) ((halvesL nodes (ps.take k)).map eI ++ [eI x, eI (stepF nodes 0 x 1)]))
    (hgrow : ((wr.drewN q).alloc (.cells #[.int .i64 x, .int .i64 (stepF nodes 0 x 1)] 3)).grownBy w1 v.ownBlock) :
    w1.ownsRow (w.heap.size + 1) 3 1 v' (2 * (k + 1)) ((halvesL nodes (ps.take (k + 1))).map eI) ∧ w1.cell? ⟨w.heap.size, 0, none⟩ = some (.int .i64 nodes) ∧ w.heap.size + 1 ≤ w1.heap.size ∧ Below w.heap.size w w1 := by
  have hlt : ∀ g, v.ownBlock = some g → w.heap.size + 1 ≤ g := fun g hg => (hown.lt g hg).1
  refine ⟨?_, ?_, ?_, ?_⟩
  · rw [ht, halvesL_snoc, List.map_append]
    exact hown'
  · refine hgrow.cell ?_ ?_
    · have : (wr.drewN q).cell? ⟨w.heap.size, 0, none⟩ = some (.int .i64 nodes) := hcn
      rw [World.cell?_alloc_past _ _ _ (by simp; omega)]
      exact this
    · intro e
      have := hlt _ e.symm
      simp at this
      omega
  · have := hgrow.size
    simp at this
    omega
  · refine ((below_drewN hbl q).alloc (by simp; omega) _).grown hgrow (by simp; omega) ?_
    intro g hg
    have := hlt g hg
    omega

set_option maxHeartbeats 1000000 in
theorem halves_any (nodes long miss good fresh : Int) (pa : Option Addr) (pn pc : Nat) (sv bv tv : Value) (ps : List Int) (w : World) (hs : Signs w) (hr : Reads w eI pa pn ps) (hn : pn ≤ 1000000) :
    Calls Tryd.prog 70 #[.agg #[.int .i64 nodes, .slice pa pn pc, sv, .int .i64 long, bv, tv, .int .i64 miss, .int .i64 good, .int .i64 fresh]] w fun e w' =>
      ∃ v, e = .returned v ∧ w'.ownsRow (w.heap.size + 1) 3 1 v (2 * pn) ((halvesL nodes ps).map eI) ∧ Below w.heap.size w w' := by
  obtain ⟨i0, hi, hz0, hz1, hz2⟩ := info_parts Tryd.infoInt
  have hb := (Below.refl w.heap.size w).alloc (Nat.le_refl _) (.cells #[.int .i64 nodes, .slice pa pn pc, sv, .int .i64 long, bv, tv, .int .i64 miss, .int .i64 good, .int .i64 fresh] 25)
  go_enter Tryd.func70, Tryd.ntmps70
  go_wp2
  go_loopw [2, 8] (fun v i wr => ∃ k : Nat, k ≤ pn ∧ i = .int .i64 k ∧ wr.ownsRow (w.heap.size + 1) 3 1 v (2 * k) ((halvesL nodes (ps.take k)).map eI) ∧ wr.cell? ⟨w.heap.size, 0, none⟩ = some (.int .i64 nodes) ∧ w.heap.size + 1 ≤ wr.heap.size ∧ Below w.heap.size w wr) (fun _ i _ => pn - (intOf i).toNat)
  case atStart => exact ⟨0, Nat.zero_le _, rfl, World.ownsRow_nil _ _ _ _, by simp [go_sem], by simp, hb⟩
  case round =>
    obtain ⟨k, hk, rfl, hown, hcn, hsz, hbl⟩ := hrel
    by_cases hlt : k < pn
    · obtain ⟨b, off, rfl, hc⟩ := hr.cells k hlt
      have hc1 := (hbl.cell (World.block_lt_of_cell? w _ hc)).trans hc
      have HT := Lib.hid (List.take_succ_eq_append_getElem (l := ps) (i := k) (by have := hr.len; omega))
      generalize hx : ps[k]'(by have := hr.len; omega) = x at hc1 HT
      clear hx hc
      unfold eI at hc1
      have hsg := hs.below hbl
      go_wp2_with fail
      refine (step_any _ _ _ _ _ (by omega) (by omega) (by omega) hsg).mono ?_
      rintro e w' ⟨rfl, q, rfl⟩
      have ho2 := (own_drewN hown q).alloc (.cells #[eI x, eI (stepF nodes 0 x 1)] 3)
      go_wp2_with (at_builtin; refine wpList_append_own _ rfl _ _ 22 rfl (w.heap.size + 1) 3 i0 (.int .i64 0) 1 8 Tryd.underlying22 hi hz0 hz1 hz2 rfl (by decide) _ _ _ rfl ho2 ⟨wr.heap.size, 0, none⟩ 2 2 [eI x, eI (stepF nodes 0 x 1)] rfl rfl ?c1 ?c2 ?c3 ?c4 ?c5 ?_)
      case c1 => exact new_cells _ _ _ _ (by simp) _ rfl
      case c2 => intro u hu; simp at hu; rcases hu with rfl | rfl <;> rfl
      case c3 => unfold maxLen; omega
      case c4 => omega
      case c5 => simp; omega
      intro v' w1 hown' hgrow _
      have R := halves_step hr.len hlt (by omega) hown hcn hsz hbl HT.out hown' hgrow
      have R1 := Lib.hid R
      clear R hown' hgrow hown hcn hbl HT ho2
      go_wp2
      go_roundw
      case rel => exact ⟨k + 1, by omega, by go_num, R1.out⟩
      case measure => simp [intOf]; omega
    · go_wp2
      go_ret
      refine ⟨_, rfl, ?_, hbl⟩
      have e : k = pn := by omega
      subst e
      rw [List.take_of_length_le (by have := hr.len; omega)] at hown
      exact hown
end Go.Proofs.YtibncdkekceokaaDoor
