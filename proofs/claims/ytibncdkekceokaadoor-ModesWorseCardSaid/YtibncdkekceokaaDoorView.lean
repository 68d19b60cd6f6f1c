/- Structs of many cells in a walk: loads, stores, pauses. -/
import Derived.Test.YtibncdkekceokaaDoorBase
import Derived.Laws.Tables
import Derived.Deep.WholeRow
namespace Go.Proofs.YtibncdkekceokaaDoor
open Go.RowKit

/-- The walk pauses here. -/
def Paused (p : Prop) : Prop := p
theorem Paused.go {p : Prop} (h : Paused p) : p := h
theorem Paused.mk {p : Prop} (h : p) : Paused p := h
section
variable {P : Program} {ops : Array Oper} {rest : List Oper} {dst : Option Tmp} {ty ty' : TypeId} {x y : Operand} {pos : String} {after : Array Edge} {a : Act} {w : World} {Q : Exit → Act → World → Prop}
theorem wpList_load_at (g : Nat) {t : TypeId} {cs : Array Value} {fr : Nat × Nat} (hg : w.heap[g]? = some (.cells cs t fr)) (hx : a.eval x = .pointer (some ⟨g, 0, none⟩)) {d : TypeDesc}
    (hu : P.underlying ty = some d) (hd : (match d with | .struct _ | .array _ _ => true | _ => false) = true) (hi : (P.info? ty).map (·.size) = some cs.size)
    (h : Paused (wpList P ops Q rest (a.put dst (.agg cs)) w)) : wpList P ops Q ({ dst := dst, op := .load ty x, type := ty', pos := pos, after := after, guard := none } :: rest) a w :=
  wpList_load_row rfl ty x rfl g hx t cs fr d hg hu hd hi h
theorem wpList_load_on {gd : Nat × Bool} (hw : yielded ops a.tmps gd.1 = some gd.2) (g : Nat) {t : TypeId} {cs : Array Value} {fr : Nat × Nat} (hg : w.heap[g]? = some (.cells cs t fr)) (hx : a.eval x = .pointer (some ⟨g, 0, none⟩)) {d : TypeDesc}
    (hu : P.underlying ty = some d) (hd : (match d with | .struct _ | .array _ _ => true | _ => false) = true) (hi : (P.info? ty).map (·.size) = some cs.size)
    (h : Paused (wpList P ops Q rest (a.put dst (.agg cs)) w)) : wpList P ops Q ({ dst := dst, op := .load ty x, type := ty', pos := pos, after := after, guard := some gd } :: rest) a w := by
  simp only [wpList]
  rw [if_pos (by simp [Region.wanted, hw])]
  exact .inl (wp_load_row ty x rfl g hx t cs fr d hg hu hd hi h)
theorem wpList_store_new {old cells : Array Value} {t : TypeId} (g n : Nat) (hg : g = w.heap.size) (hx : a.eval x = .pointer (some ⟨g, 0, none⟩)) (hy : a.eval y = .agg cells) (hi : (P.info? ty).map (·.size) = some cells.size)
    (ho : old.size = n) (hn : cells.size = n) (h1 : cells.all (·.oneCell') = true)
    (h : ∀ w' : World, w'.heap[g]? = some (.cells cells t (0, 0)) → Below w.heap.size w w' → w'.heap.size = w.heap.size + 1 → Paused (wpList P ops Q rest (a.put dst undef) w')) :
    wpList P ops Q ({ dst := dst, op := .store ty x y, type := ty', pos := pos, after := after, guard := none } :: rest) a (w.alloc (.cells old t)) := by
  subst hg
  refine wpList_store_row rfl ty x y rfl w.heap.size cells hx hy t old (heap_new _ _ _ rfl) hi (by omega) h1 ?_
  rw [World.setRow_alloc_new]
  exact h _ (heap_new _ _ _ rfl) ((Below.refl w.heap.size w).alloc (Nat.le_refl _) _) (by simp)
end
end Go.Proofs.YtibncdkekceokaaDoor
