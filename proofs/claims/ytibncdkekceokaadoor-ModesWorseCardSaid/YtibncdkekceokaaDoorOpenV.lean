/- A view's argument opened. -/
import Derived.Test.YtibncdkekceokaaDoorOpen
import Derived.Test.YtibncdkekceokaaDoorModes
namespace Go.Proofs.YtibncdkekceokaaDoor
open Go.ChangeShapes Go.WideShapes Go.ChangeAt Go.WideMaps Go.WideElems Go.RowKit Go.Deep

/-- The types of a view's cells. -/
def viewT : List TypeId := [4, 4, 4, 4, 4, 4, 4, 4, 5, 5, 5, 5, 5, 5, 5, 5, 5, 5, 5, 5, 5, 5, 5, 5,
  28, 28, 28, 28, 28, 28, 28, 28, 4, 4, 4, 4, 4, 4, 4, 4, 30, 5]
theorem view_types : Tryd.prog.cellTypes Tryd.prog.depth 32 = some viewT := by kernel_rfl
theorem cells_view : Tryd.prog.cellsOf 32 = 42 := by kernel_rfl
theorem viewT_in : ∀ u ∈ viewT, u = 4 ∨ u = 5 ∨ u = 28 ∨ u = 30 := by decide +kernel
theorem viewT_bool : ∀ k, k < 8 → viewT[k]? = some 4 := by
  intro k hk
  rcases k with _ | _ | _ | _ | _ | _ | _ | _ | k
  all_goals first | rfl | omega
theorem cell_bool {P : Program} {w : World} {r : Reach} {base : Nat} {t : TypeId} {v : Value} (hu : P.underlying t = some .bool) (h : Cell.okWide P w r base t v) : ∃ b, v = .bool b := by
  simp only [Cell.okWide, hu] at h
  unfold Cell.ok at h
  rw [hu] at h
  cases v <;> simp_all
theorem cell_int {P : Program} {w : World} {r : Reach} {base : Nat} {t : TypeId} {k : IntKind} {v : Value} (hu : P.underlying t = some (.int k)) (h : Cell.okWide P w r base t v) : ∃ n, v = .int k n ∧ k.has n := by
  simp only [Cell.okWide, hu] at h
  unfold Cell.ok at h
  rw [hu] at h
  cases v <;> simp_all
set_option maxRecDepth 10000 in
theorem open_view {w : World} {base : Nat} {v : Value} (hval : Value.okWide Tryd.prog w .any base 32 v) : ∃ (vs : Array Value) (ins : Nat → Bool) (cmd : Int) (md : Nat), v = .agg vs ∧ ViewIs vs ins cmd md := by
  simp only [Value.okWide, Tryd.underlying32] at hval
  obtain ⟨cs, rfl, hsz, ts, hts, _, hrow⟩ := hval
  rw [view_types] at hts
  obtain rfl := Option.some.inj hts
  rw [cells_view] at hsz
  have hl : viewT.length = 42 := rfl
  have hat : ∀ i (hi : i < 42), ∃ u, viewT[i]? = some u ∧ Cell.okWide Tryd.prog w .any base u (cs[i]'(by omega)) := fun i hi => by
    obtain ⟨u, h1, h2⟩ := hrow i _ (Array.getElem?_eq_getElem (by omega))
    rw [hl, Nat.mod_eq_of_lt hi] at h1
    exact ⟨u, h1, h2⟩
  obtain ⟨u40, e40, o40⟩ := hat 40 (by omega)
  obtain rfl : _ = u40 := Option.some.inj e40
  obtain ⟨cmd, hcmd, _⟩ := cell_int Tryd.underlying30 o40
  obtain ⟨u41, e41, o41⟩ := hat 41 (by omega)
  obtain rfl : _ = u41 := Option.some.inj e41
  obtain ⟨md, hmd, hm⟩ := cell_int Tryd.underlying5 o41
  have hm1 : 0 ≤ md := hm.1
  have hm2 : md ≤ 255 := hm.2
  refine ⟨cs, fun k => match cs[k]? with | some (.bool b) => b | _ => false, cmd, md.toNat, rfl, hsz, ?_, ?_, ?_, by omega, by omega, ?_⟩
  · intro k hk
    obtain ⟨u, h1, h2⟩ := hat k (by omega)
    rw [viewT_bool k hk] at h1
    obtain rfl := Option.some.inj h1
    obtain ⟨b, hb⟩ := cell_bool Tryd.underlying4 h2
    rw [Array.getElem?_eq_getElem (by omega), hb]
  · rw [Array.getElem?_eq_getElem (by omega), hcmd]
  · rw [Array.getElem?_eq_getElem (by omega), hmd, Int.toNat_of_nonneg hm1]
  · intro i v hv
    obtain ⟨hi, rfl⟩ := Array.getElem?_eq_some_iff.1 hv
    obtain ⟨u, h1, h2⟩ := hat i (by omega)
    rcases viewT_in u (List.mem_of_getElem? h1) with rfl | rfl | rfl | rfl
    · obtain ⟨b, hb⟩ := cell_bool Tryd.underlying4 h2
      rw [hb]; rfl
    · obtain ⟨b, hb, _⟩ := cell_int Tryd.underlying5 h2
      rw [hb]; rfl
    · obtain ⟨b, hb, _⟩ := cell_int Tryd.underlying28 h2
      rw [hb]; rfl
    · obtain ⟨b, hb, _⟩ := cell_int Tryd.underlying30 h2
      rw [hb]; rfl
end Go.Proofs.YtibncdkekceokaaDoor
