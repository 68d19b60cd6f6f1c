/- The edges' table lies as it should. -/
import Derived.Test.YtibncdkekceokaaDoorLaid
namespace Go.Proofs.YtibncdkekceokaaDoor
open Go.ChangeShapes Go.WideShapes Go.ChangeAt Go.WideMaps Go.WideElems Go.RowKit

def edgesL : List (List Bool) := [[true, true, true, true, true], [false, true, true, true, true], [false, true, true, true, true], [false, false, true, true, true], [false, false, false, true, true]]
theorem edgesL_at : ∀ a b, a < 5 → b < 5 → ∃ r, edgesL[a]? = some r ∧ r[b]? = some (edgeT a b) := by
  intro a b ha hb
  have h1 : a = 0 ∨ a = 1 ∨ a = 2 ∨ a = 3 ∨ a = 4 := by omega
  have h2 : b = 0 ∨ b = 1 ∨ b = 2 ∨ b = 3 ∨ b = 4 := by omega
  rcases h1 with rfl | rfl | rfl | rfl | rfl <;> rcases h2 with rfl | rfl | rfl | rfl | rfl <;> exact ⟨_, rfl, by decide +kernel⟩
theorem gEdges : Tryd.prog.globalNamed "sennit/modes.edges" = some 0 := by kernel_rfl
theorem edges_of {l : List (String × DataW Unit)} {w : World} (h : laidMetH Tryd.prog l w) (hp : (l.all fun x => x.2.handleName?.isNone) = true) (hm : ("sennit/modes.edges", DataW.agg (edgesL.map fun r => DataW.agg (r.map fun z => DataW.lit (Lit.bool z)))) ∈ l) : Edges w := by
  rw [MakeChecks.laidMetH_plain _ _ _ hp] at h
  have key := laid_bools2 h hm gEdges (show (Tryd.prog.globals[0]?).map (·.type) = some 135 by kernel_rfl) Tryd.underlying135 Tryd.underlying134 Tryd.underlying4 (by kernel_rfl) (by kernel_rfl)
  have h0 : w.cell? ⟨0, 0, none⟩ = some (.bool true) := key 0 _ 0 _ rfl rfl (by omega)
  refine ⟨fun a b ha hb => ?_, World.block_lt_of_cell? w _ h0⟩
  obtain ⟨r, h1, h2⟩ := edgesL_at a b ha hb
  exact key a r b _ h1 h2 hb
end Go.Proofs.YtibncdkekceokaaDoor
