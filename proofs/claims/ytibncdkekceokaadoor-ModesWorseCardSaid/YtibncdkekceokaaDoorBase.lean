/- The words that all texts of this seat share: small facts on worlds, and on integers. -/
import Derived.Test.YtibncdkekceokaaDoorProg
import Derived.WalkKit
import Derived.WalkSpells
import Derived.WalkLawsBesides
import Derived.Outline
import Derived.Lib.Hide
import Derived.Deep.QuietTactic
import Derived.BigQuiet
import Derived.Deep.RegionHeld3
import Derived.StillTailTactics
import Derived.Deep.DeepCutAuto
namespace Go.Proofs.YtibncdkekceokaaDoor
open Go.RowKit

theorem below_drewN {B : Nat} {a w : World} (h : Below B a w) (k : Nat) : Below B a (w.drewN k) := ⟨h.os, h.tape, h.output, h.size, h.block⟩
theorem below_drawn (w : World) (k : Nat) : Below w.heap.size w (w.drewN k) := below_drewN (Below.refl _ _) k

theorem grown_drewN (w : World) (k : Nat) (row : Option Nat) : w.grownBy (w.drewN k) row := ⟨rfl, rfl, rfl, Nat.le_refl _, fun _ _ _ => rfl⟩
theorem own_drewN {w : World} {base : Nat} {e : TypeId} {size : Nat} {v : Value} {n : Nat} {xs : List Value} (h : w.ownsRow base e size v n xs) (k : Nat) : (w.drewN k).ownsRow base e size v n xs :=
  h.kept (grown_drewN w k none) (by cases v.ownBlock <;> simp)
theorem own_below {w w' : World} {base : Nat} {e : TypeId} {size : Nat} {v : Value} {n : Nat} {xs : List Value} (h : w.ownsRow base e size v n xs) (hb : Below w.heap.size w w') : w'.ownsRow base e size v n xs :=
  h.kept ⟨hb.os, hb.tape, hb.output, hb.size, fun k hk _ => hb.block k hk⟩ (by cases v.ownBlock <;> simp : v.ownBlock = none ∨ v.ownBlock ≠ none)

/-- The cells of a new block, as an append's law asks for them. -/
theorem new_cells (w : World) (vs : Array Value) (T : TypeId) (g : Nat) (hg : g = w.heap.size) (l : List Value) (hl : vs.toList = l) : ∀ j u, l[j]? = some u → (w.alloc (.cells vs T)).cell? ((⟨g, 0, none⟩ : Addr).add j) = some u := by
  intro j u hu
  have e : (⟨g, 0, none⟩ : Addr).add j = ⟨g, j, none⟩ := by unfold Addr.add; split <;> simp_all
  rw [e, World.cell?_alloc_at _ _ _ _ hg]
  subst hl
  simpa using hu

/-- The table of signs reads as it was laid. -/
structure Signs (w : World) : Prop where
  s0 : w.cell? ⟨1, 0, none⟩ = some (.int .i64 1)
  s1 : w.cell? ⟨1, 1, none⟩ = some (.int .i64 (-1))
  lt : 1 < w.heap.size

theorem Signs.below {w w' : World} (h : Signs w) (hb : Below w.heap.size w w') : Signs w' :=
  ⟨(hb.cell (p := ⟨1, 0, none⟩) h.lt).trans h.s0, (hb.cell (p := ⟨1, 1, none⟩) h.lt).trans h.s1, Nat.lt_of_lt_of_le h.lt hb.size⟩

theorem ret_int {k : IntKind} {a b : Int} (h : a = b) : Ending.returned (.int k a) = .returned (.int k b) := by rw [h]
theorem ret_bool {a b : Bool} (h : a = b) : Ending.returned (.bool a) = .returned (.bool b) := by rw [h]

theorem Signs.drawn {w : World} (h : Signs w) (k : Nat) : Signs (w.drewN k) := h.below ⟨rfl, rfl, rfl, Nat.le_refl _, fun _ _ => rfl⟩
/-- A slice whose elements are one cell each reads as a list. -/
structure Reads {α : Type} (w : World) (enc : α → Value) (a : Option Addr) (n : Nat) (xs : List α) : Prop where
  len : xs.length = n
  small : n ≤ 9223372036854775807
  cells : ∀ i (h : i < n), ∃ b off, a = some ⟨b, off, none⟩ ∧ w.cell? ⟨b, off + i, none⟩ = some (enc (xs[i]'(by omega)))
theorem Reads.below {α : Type} {w w' : World} {enc : α → Value} {a : Option Addr} {n : Nat} {xs : List α} (h : Reads w enc a n xs) (hb : Below w.heap.size w w') : Reads w' enc a n xs :=
  ⟨h.len, h.small, fun i hi => by
    obtain ⟨b, off, ha, hc⟩ := h.cells i hi
    exact ⟨b, off, ha, (hb.cell (World.block_lt_of_cell? w _ hc)).trans hc⟩⟩
theorem Reads.drawn {α : Type} {w : World} {enc : α → Value} {a : Option Addr} {n : Nat} {xs : List α} (h : Reads w enc a n xs) (k : Nat) : Reads (w.drewN k) enc a n xs :=
  h.below (below_drawn w k)
theorem Reads.drew {α : Type} {w : World} {enc : α → Value} {a : Option Addr} {n : Nat} {xs : List α} (h : Reads w enc a n xs) : Reads w.drew enc a n xs :=
  h.below (Below.refl _ _).drew
theorem Reads.base {α : Type} {w : World} {enc : α → Value} {a : Option Addr} {n : Nat} {xs : List α} (h : Reads w enc a n xs) (h0 : 0 < n) :
    ∃ b off, a = some ⟨b, off, none⟩ ∧ ∀ i (hi : i < n), w.cell? ⟨b, off + i, none⟩ = some (enc (xs[i]'(by have := h.len; omega))) := by
  obtain ⟨b, off, ha, _⟩ := h.cells 0 h0
  refine ⟨b, off, ha, fun i hi => ?_⟩
  obtain ⟨b', off', ha', hc'⟩ := h.cells i hi
  rw [ha] at ha'
  injection ha' with ha'
  injection ha' with e1 e2
  subst e1 e2
  exact hc'
/-- What every slice value meets. -/
structure SliceOK (a : Option Addr) (n cap : Nat) : Prop where
  le : n ≤ cap
  nil : a = none → n = 0 ∧ cap = 0
  addr : ∀ ad, a = some ad → ∃ b off, ad = ⟨b, off, none⟩
/-- The elements, as an append's law asks for them. -/
theorem Reads.news {α : Type} {w : World} {enc : α → Value} {b off n : Nat} {xs : List α} (h : Reads w enc (some ⟨b, off, none⟩) n xs) : ∀ j u, (xs.map enc)[j]? = some u → w.cell? ((⟨b, off, none⟩ : Addr).add j) = some u := by
  intro j u hu
  have e : (⟨b, off, none⟩ : Addr).add j = ⟨b, off + j, none⟩ := by unfold Addr.add; split <;> simp_all
  rw [e]
  rw [List.getElem?_map] at hu
  by_cases hj : j < n
  · obtain ⟨b', off', h1, h2⟩ := h.cells j hj
    simp only [Option.some.injEq, Addr.mk.injEq, and_true] at h1
    obtain ⟨rfl, rfl⟩ := h1
    rw [List.getElem?_eq_getElem (by rw [h.len]; exact hj)] at hu
    rw [h2]
    simpa using hu
  · rw [List.getElem?_eq_none (by rw [h.len]; omega)] at hu
    cases hu
/-- A row that the call owns is a slice, with its length at most its room. -/
theorem own_slice {w : World} {base : Nat} {e : TypeId} {size : Nat} {v : Value} {n : Nat} {xs : List Value} (h : w.ownsRow base e size v n xs) : ∃ a cap, v = .slice a n cap ∧ SliceOK a n cap := by
  rcases h.2 with ⟨rfl, rfl⟩ | ⟨g, cap, cur, rfl, _, _, hc, _⟩
  · exact ⟨none, 0, rfl, Nat.le_refl _, fun _ => ⟨rfl, rfl⟩, fun _ h => by cases h⟩
  · exact ⟨_, cap, rfl, hc, (fun h => by cases h), fun _ h => by cases h; exact ⟨g, 0, rfl⟩⟩
/-- How an int stands in a cell. -/
def eI (x : Int) : Value := .int .i64 x
/-- What a new block's cells read as. -/
theorem reads_new {α : Type} (w : World) (vs : Array Value) (T : TypeId) (g : Nat) (hg : g = w.heap.size) (xs : List α) {enc : α → Value} {n : Nat} (hl : vs.toList = xs.map enc) (hn : xs.length = n) (hs : n ≤ 9223372036854775807) : Reads (w.alloc (.cells vs T)) enc (some ⟨g, 0, none⟩) n xs :=
  ⟨hn, hs, fun i hi => ⟨g, 0, rfl, by
    rw [World.cell?_alloc_at _ _ _ _ hg, Nat.zero_add, ← Array.getElem?_toList, hl]
    simp [hn, hi]⟩⟩
/-- A slice of stations (three cells each) reads as a list: at which node, safe, hold. -/
structure ReadsSt (w : World) (a : Option Addr) (n : Nat) (xs : List (Int × Int × Int)) : Prop where
  len : xs.length = n
  small : n ≤ 9223372036854775807
  cells : ∀ i (h : i < n), ∃ b off, a = some ⟨b, off, none⟩ ∧ w.cell? ⟨b, off + i * 3, none⟩ = some (.int .i64 (xs[i]'(by omega)).1) ∧ w.cell? ⟨b, off + i * 3 + 1, none⟩ = some (.int .u32 (xs[i]'(by omega)).2.1) ∧ w.cell? ⟨b, off + i * 3 + 2, none⟩ = some (.int .i64 (xs[i]'(by omega)).2.2)
theorem ReadsSt.below {w w' : World} {a : Option Addr} {n : Nat} {xs : List (Int × Int × Int)} (h : ReadsSt w a n xs) (hb : Below w.heap.size w w') : ReadsSt w' a n xs :=
  ⟨h.len, h.small, fun i hi => by
    obtain ⟨b, off, ha, h0, h1, h2⟩ := h.cells i hi
    exact ⟨b, off, ha, (hb.cell (World.block_lt_of_cell? w _ h0)).trans h0, (hb.cell (World.block_lt_of_cell? w _ h1)).trans h1, (hb.cell (World.block_lt_of_cell? w _ h2)).trans h2⟩⟩
/-- A slice that the call owns, with no room behind: its cells are 'cs', in a block from lo on. -/
def OwnV (w : World) (lo : Nat) (e : TypeId) (size : Nat) (v : Value) (n : Nat) (cs : List Value) : Prop :=
  (v = .slice none 0 0 ∧ n = 0 ∧ cs = []) ∨ ∃ g cur, v = .slice (some ⟨g, 0, none⟩) n n ∧ lo ≤ g ∧ w.heap[g]? = some (.cells cur e (0, 0)) ∧ cs.length = n * size ∧ n * size ≤ cur.size ∧ cur.toList.take (n * size) = cs
theorem OwnV.of_own {w : World} {lo : Nat} {e : TypeId} {size : Nat} {a : Option Addr} {n cap : Nat} {cs : List Value} (h : w.ownsRow lo e size (.slice a n cap) n cs) : OwnV w lo e size (.slice a n n) n cs := by
  obtain ⟨h1, ⟨hv, rfl⟩ | ⟨g, cap', cur, hv, hb, hg, r1, r2, r3, r4⟩⟩ := h
  · simp only [Value.slice.injEq] at hv
    obtain ⟨rfl, _, rfl⟩ := hv
    exact .inl ⟨rfl, rfl, List.eq_nil_of_length_eq_zero (by simpa using h1)⟩
  · simp only [Value.slice.injEq] at hv
    obtain ⟨rfl, _, rfl⟩ := hv
    exact .inr ⟨g, cur, rfl, hb, hg, h1, by rw [r3]; exact Nat.mul_le_mul_right _ r1, r4⟩
/-- It stands as long as its block does. -/
theorem OwnV.kept {w w' : World} {lo : Nat} {e : TypeId} {size : Nat} {v : Value} {n : Nat} {cs : List Value} (h : OwnV w lo e size v n cs) (hk : ∀ g, lo ≤ g → g < w.heap.size → w'.heap[g]? = w.heap[g]?) : OwnV w' lo e size v n cs := by
  rcases h with h | ⟨g, cur, hv, hb, hg, rest⟩
  · exact .inl h
  · exact .inr ⟨g, cur, hv, hb, (hk g hb (Array.getElem?_eq_some_iff.1 hg).1).trans hg, rest⟩
theorem OwnV.below {w w' : World} {lo : Nat} {e : TypeId} {size : Nat} {v : Value} {n : Nat} {cs : List Value} (h : OwnV w lo e size v n cs) (hb : Below w.heap.size w w') : OwnV w' lo e size v n cs :=
  h.kept fun g _ hg => hb.block g hg
theorem OwnV.mono {w : World} {lo lo' : Nat} {e : TypeId} {size : Nat} {v : Value} {n : Nat} {cs : List Value} (h : OwnV w lo e size v n cs) (hl : lo' ≤ lo) : OwnV w lo' e size v n cs := by
  rcases h with h | ⟨g, cur, hv, hb, rest⟩
  · exact .inl h
  · exact .inr ⟨g, cur, hv, Nat.le_trans hl hb, rest⟩
theorem OwnV.value {w : World} {lo : Nat} {e : TypeId} {size : Nat} {v : Value} {n : Nat} {cs : List Value} (h : OwnV w lo e size v n cs) : ∃ a, v = .slice a n n ∧ SliceOK a n n := by
  rcases h with ⟨rfl, rfl, _⟩ | ⟨g, cur, rfl, _⟩
  · exact ⟨none, rfl, Nat.le_refl _, fun _ => ⟨rfl, rfl⟩, fun _ h => by cases h⟩
  · exact ⟨_, rfl, Nat.le_refl _, (fun h => by cases h), fun _ h => by cases h; exact ⟨g, 0, rfl⟩⟩
/-- .. and the block lies below hi. -/
def OwnIn (w : World) (lo hi : Nat) (e : TypeId) (size : Nat) (v : Value) (n : Nat) (cs : List Value) : Prop := OwnV w lo e size v n cs ∧ ∀ g, v.ownBlock = some g → g < hi
theorem OwnIn.kept {w w' : World} {lo hi : Nat} {e : TypeId} {size : Nat} {v : Value} {n : Nat} {cs : List Value} (h : OwnIn w lo hi e size v n cs) (hk : ∀ g, lo ≤ g → g < w.heap.size → w'.heap[g]? = w.heap[g]?) : OwnIn w' lo hi e size v n cs := ⟨h.1.kept hk, h.2⟩
theorem OwnIn.below {w w' : World} {lo hi : Nat} {e : TypeId} {size : Nat} {v : Value} {n : Nat} {cs : List Value} (h : OwnIn w lo hi e size v n cs) (hb : Below w.heap.size w w') : OwnIn w' lo hi e size v n cs := ⟨h.1.below hb, h.2⟩
theorem OwnIn.of_own {w : World} {lo : Nat} {e : TypeId} {size : Nat} {a : Option Addr} {n cap : Nat} {cs : List Value} (h : w.ownsRow lo e size (.slice a n cap) n cs) : OwnIn w lo w.heap.size e size (.slice a n n) n cs :=
  ⟨.of_own h, fun g hg => by
    have : (Value.slice a n cap).ownBlock = some g := by
      rw [← hg]
      cases a <;> rfl
    exact (h.lt g this).2⟩
theorem heap_set_same {w : World} {b : Nat} {c : Array Value} {e : TypeId} {fr : Nat × Nat} (h : w.heap[b]? = some (.cells c e fr)) (i : Nat) (v : Value) : (w.setCell ⟨b, i, none⟩ v).heap[b]? = some (.cells (c.setIfInBounds i v) e fr) := by
  simp [World.setCell, Array.getElem?_modify, h]
theorem heap_cell {w : World} {b : Nat} {c : Array Value} {e : TypeId} {fr : Nat × Nat} (h : w.heap[b]? = some (.cells c e fr)) (i : Nat) : w.cell? ⟨b, i, none⟩ = c[i]? := by
  simp [World.cell?, h]
theorem heap_thawed {w : World} {b : Nat} {c : Array Value} {e : TypeId} (h : w.heap[b]? = some (.cells c e (0, 0))) (i : Nat) : w.frozen? ⟨b, i, none⟩ = false := by
  simp [World.frozen?, h]
theorem heap_new (w : World) (o : Obj) (b : Nat) (h : b = w.heap.size) : (w.alloc o).heap[b]? = some o := by subst h; exact heap_alloc_new w o
/-- How a station stands in its three cells. -/
def eSt (s : Int × Int × Int) : List Value := [.int .i64 s.1, .int .u32 s.2.1, .int .i64 s.2.2]
theorem flat3_get (xs : List (Int × Int × Int)) : ∀ j, (xs.flatMap eSt)[j]? = (xs[j / 3]?).bind fun s => (eSt s)[j % 3]? := by
  induction xs with
  | nil => intro j; simp
  | cons s r ih =>
    intro j
    rw [List.flatMap_cons]
    match j with
    | 0 => simp [eSt]
    | 1 => simp [eSt]
    | 2 => simp [eSt]
    | k + 3 =>
      rw [List.getElem?_append_right (by simp [eSt])]
      have e1 : k + 3 - (eSt s).length = k := by simp [eSt]
      have e2 : (k + 3) / 3 = k / 3 + 1 := by omega
      have e3 : (k + 3) % 3 = k % 3 := by omega
      rw [e1, e2, e3, ih k, List.getElem?_cons_succ]
theorem flat3_length (xs : List (Int × Int × Int)) : (xs.flatMap eSt).length = xs.length * 3 := by
  induction xs with
  | nil => rfl
  | cons s r ih => rw [List.flatMap_cons, List.length_append, ih]; simp [eSt]; omega
theorem ReadsSt.news {w : World} {b off n : Nat} {xs : List (Int × Int × Int)} (h : ReadsSt w (some ⟨b, off, none⟩) n xs) : ∀ j u, (xs.flatMap eSt)[j]? = some u → w.cell? ((⟨b, off, none⟩ : Addr).add j) = some u := by
  intro j u hu
  have e : (⟨b, off, none⟩ : Addr).add j = ⟨b, off + j, none⟩ := by unfold Addr.add; split <;> simp_all
  rw [e]
  rw [flat3_get] at hu
  by_cases hj : j / 3 < n
  · obtain ⟨b', off', h1, h2, h3, h4⟩ := h.cells (j / 3) hj
    simp only [Option.some.injEq, Addr.mk.injEq, and_true] at h1
    obtain ⟨rfl, rfl⟩ := h1
    rw [List.getElem?_eq_getElem (by rw [h.len]; exact hj), Option.bind_some] at hu
    have hc : j % 3 = 0 ∨ j % 3 = 1 ∨ j % 3 = 2 := by omega
    rcases hc with hc | hc | hc
    · rw [hc] at hu
      rw [show off + j = off + j / 3 * 3 by omega, h2]
      simpa [eSt] using hu
    · rw [hc] at hu
      rw [show off + j = off + j / 3 * 3 + 1 by omega, h3]
      simpa [eSt] using hu
    · rw [hc] at hu
      rw [show off + j = off + j / 3 * 3 + 2 by omega, h4]
      simpa [eSt] using hu
  · rw [List.getElem?_eq_none (by rw [h.len]; omega)] at hu
    cases hu
/-- A contract of a function that leaves the world alone, met in a quiet region. -/
theorem calls_flip {P : Program} {f : FuncId} {args : Array Value} {w : World} {v : Value} (h : Calls P f args w fun e w' => e = .returned v ∧ w' = w) : Calls P f args w fun e w' => e = .returned v ∧ w = w' :=
  h.mono fun _ _ ⟨he, hm⟩ => ⟨he, hm.symm⟩
theorem still_eq {P : Program} {f : FuncId} {args : Array Value} {w : World} {v : Value}
    (h : Calls P f args w fun e w' => e = .returned v ∧ w = w') : Calls P f args w fun e w' => e = .returned v ∧ w' = w :=
  h.mono fun _ _ ⟨he, hm⟩ => ⟨he, hm.symm⟩
theorem quiet_eq {P : Program} {f : FuncId} {args : Array Value} {w : World} {n : Nat} {v : Value}
    (h : Calls P f args (w.drewN n) fun e w' => e = .returned v ∧ w.drewN n = w') : Calls P f args (w.drewN n) fun e w'' => e = .returned v ∧ ∃ m, w'' = w.drewN m :=
  h.mono fun _ _ ⟨he, hm⟩ => ⟨he, n, hm.symm⟩

end Go.Proofs.YtibncdkekceokaaDoor
