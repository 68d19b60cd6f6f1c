/- What a table that lies as its text says holds, cell by cell. -/
import Derived.Test.YtibncdkekceokaaDoorModes
import Derived.ProofKit
import Derived.OpenShut
import Derived.LaidMore
import Derived.MakeChecks
namespace Go.Proofs.YtibncdkekceokaaDoor
open Go.ChangeShapes Go.WideShapes Go.ChangeAt Go.WideMaps Go.WideElems Go.RowKit

section
variable {P : Program} {w : World}
theorem laidVars_mem : ∀ {l : List (String × DataW Unit)} {ps : List MemPlace}, DataW.LaidVars P w l ps → ∀ {n : String} {d : DataW Unit}, (n, d) ∈ l →
    ∃ g t cs fuel p, P.globalNamed n = some g ∧ (P.globals[g]?).map (·.type) = some t ∧ w.var? P n = some cs ∧ DataW.trod (fun _ => ()) P w 0 (fun _ => true) false fuel t cs.toList = some (d, p)
  | [], _, _, n, d, hm => by cases hm
  | (n', d') :: r, ps, h, n, d, hm => by
    obtain ⟨g, t, cs, fuel, p, q, h1, h2, h3, h4, h5, _⟩ := h
    rcases List.mem_cons.1 hm with e | hm
    · cases e
      exact ⟨g, t, cs, fuel, p, h1, h2, h3, h4⟩
    · exact laidVars_mem h5 hm
theorem drop_take_one (cs : List Value) (i : Nat) (v : Value) (h : (cs.drop i).take 1 = [v]) : cs[i]? = some v := by
  have e : ((cs.drop i).take 1)[0]? = some v := by rw [h]; rfl
  rw [List.getElem?_take, if_pos (by omega), List.getElem?_drop] at e
  exact e
/-- A row of numbers. -/
theorem trod_nums {fuel n : Nat} {t e : TypeId} {k : IntKind} {cs : List Value} {zs : List Int} {p : List MemPlace} (hu : P.underlying t = some (.array n e)) (he : P.underlying e = some (.int k)) (hc : P.cellsOf e = 1)
    (h : DataW.trod (fun _ => ()) P w 0 (fun _ => true) false fuel t cs = some (.agg (zs.map fun z => DataW.lit (Lit.int k z)), p)) : ∀ (i : Nat) z, zs[i]? = some z → cs[i]? = some (Value.int k z) := by
  obtain ⟨xs, m, _, hx, _, hn, hel⟩ := DataW.trod_array hu h
  intro i z hz
  simp only [Prod.mk.injEq, DataW.agg.injEq] at hx
  have hi : i < zs.length := (List.getElem?_eq_some_iff.1 hz).1
  have hl : zs.length = xs.length := by have := congrArg List.length hx.1; simpa using this
  have h1 := hel i (by omega)
  rw [hc, Nat.mul_one, List.getElem?_eq_getElem (show i < xs.length by omega)] at h1
  obtain ⟨y, e1, e2, _⟩ := DataW.trod_int he h1
  have h2 : (zs.map fun z => (DataW.lit (.int k z) : DataW Unit))[i]? = (xs.map (·.1))[i]? := by rw [hx.1]
  rw [List.getElem?_map, List.getElem?_map, hz, List.getElem?_eq_getElem (show i < xs.length by omega), e2] at h2
  have h3 : z = y := by simpa using h2
  rw [h3]
  exact drop_take_one _ _ _ e1
/-- A row of bools. -/
theorem trod_bools {fuel n : Nat} {t e : TypeId} {cs : List Value} {zs : List Bool} {p : List MemPlace} (hu : P.underlying t = some (.array n e)) (he : P.underlying e = some .bool) (hc : P.cellsOf e = 1)
    (h : DataW.trod (fun _ => ()) P w 0 (fun _ => true) false fuel t cs = some (.agg (zs.map fun z => DataW.lit (Lit.bool z)), p)) : ∀ (i : Nat) z, zs[i]? = some z → cs[i]? = some (Value.bool z) := by
  obtain ⟨xs, m, _, hx, _, hn, hel⟩ := DataW.trod_array hu h
  intro i z hz
  simp only [Prod.mk.injEq, DataW.agg.injEq] at hx
  have hi : i < zs.length := (List.getElem?_eq_some_iff.1 hz).1
  have hl : zs.length = xs.length := by have := congrArg List.length hx.1; simpa using this
  have h1 := hel i (by omega)
  rw [hc, Nat.mul_one, List.getElem?_eq_getElem (show i < xs.length by omega)] at h1
  obtain ⟨y, e1, e2⟩ := DataW.trod_bool he h1
  have h2 : (zs.map fun z => (DataW.lit (.bool z) : DataW Unit))[i]? = (xs.map (·.1))[i]? := by rw [hx.1]
  rw [List.getElem?_map, List.getElem?_map, hz, List.getElem?_eq_getElem (show i < xs.length by omega), e2] at h2
  have h3 : z = y := by simpa using h2
  rw [h3]
  exact drop_take_one _ _ _ e1
theorem trod_bools2 {fuel n m : Nat} {t e b : TypeId} {cs : List Value} {zs : List (List Bool)} {p : List MemPlace} (hu : P.underlying t = some (.array n e)) (he : P.underlying e = some (.array m b)) (hb : P.underlying b = some .bool) (hcb : P.cellsOf b = 1) (hce : P.cellsOf e = m)
    (h : DataW.trod (fun _ => ()) P w 0 (fun _ => true) false fuel t cs = some (.agg (zs.map fun r => DataW.agg (r.map fun z => DataW.lit (Lit.bool z))), p)) : ∀ (i : Nat) r (j : Nat) z, zs[i]? = some r → r[j]? = some z → j < m → cs[i * m + j]? = some (Value.bool z) := by
  obtain ⟨xs, q, _, hx, _, hn, hel⟩ := DataW.trod_array hu h
  intro i r j z hz hj hjm
  simp only [Prod.mk.injEq, DataW.agg.injEq] at hx
  have hi : i < zs.length := (List.getElem?_eq_some_iff.1 hz).1
  have hl : zs.length = xs.length := by have := congrArg List.length hx.1; simpa using this
  have h1 := hel i (by omega)
  rw [hce, List.getElem?_eq_getElem (show i < xs.length by omega)] at h1
  have h2 : (zs.map fun r => (DataW.agg (r.map fun z => DataW.lit (Lit.bool z)) : DataW Unit))[i]? = (xs.map (·.1))[i]? := by rw [hx.1]
  rw [List.getElem?_map, List.getElem?_map, hz, List.getElem?_eq_getElem (show i < xs.length by omega)] at h2
  have h3 : (DataW.agg (r.map fun z => DataW.lit (Lit.bool z)) : DataW Unit) = (xs[i]'(by omega)).1 := by simpa using h2
  have h4 := trod_bools he hb hcb (zs := r) (p := (xs[i]'(by omega)).2) (by rw [h1]; exact congrArg some (Prod.ext h3.symm rfl)) j z hj
  rw [List.getElem?_take, if_pos hjm, List.getElem?_drop] at h4
  exact h4
variable {l : List (String × DataW Unit)}
theorem laid_nums (h : laidMet P l w) {nm : String} {zs : List Int} {k : IntKind} (hm : (nm, DataW.agg (zs.map fun z => DataW.lit (Lit.int k z))) ∈ l) {g n : Nat} {t e : TypeId} (hg : P.globalNamed nm = some g) (ht : (P.globals[g]?).map (·.type) = some t)
    (hu : P.underlying t = some (.array n e)) (he : P.underlying e = some (.int k)) (hc : P.cellsOf e = 1) : ∀ (i : Nat) z, zs[i]? = some z → w.cell? ⟨g, i, none⟩ = some (Value.int k z) := by
  obtain ⟨ps, hv, _⟩ := h
  obtain ⟨g', t', cs, fuel, p, h1, h2, h3, h4⟩ := laidVars_mem hv hm
  obtain rfl := Option.some.inj (hg.symm.trans h1)
  obtain rfl := Option.some.inj (ht.symm.trans h2)
  intro i z hz
  rw [World.var?_cell h1 h3 i, ← Array.getElem?_toList]
  exact trod_nums hu he hc h4 i z hz
theorem laid_bools2 (h : laidMet P l w) {nm : String} {zs : List (List Bool)} (hm : (nm, DataW.agg (zs.map fun r => DataW.agg (r.map fun z => DataW.lit (Lit.bool z)))) ∈ l) {g n m : Nat} {t e b : TypeId} (hg : P.globalNamed nm = some g) (ht : (P.globals[g]?).map (·.type) = some t)
    (hu : P.underlying t = some (.array n e)) (he : P.underlying e = some (.array m b)) (hb : P.underlying b = some .bool) (hcb : P.cellsOf b = 1) (hce : P.cellsOf e = m) : ∀ (i : Nat) r (j : Nat) z, zs[i]? = some r → r[j]? = some z → j < m → w.cell? ⟨g, i * m + j, none⟩ = some (Value.bool z) := by
  obtain ⟨ps, hv, _⟩ := h
  obtain ⟨g', t', cs, fuel, p, h1, h2, h3, h4⟩ := laidVars_mem hv hm
  obtain rfl := Option.some.inj (hg.symm.trans h1)
  obtain rfl := Option.some.inj (ht.symm.trans h2)
  intro i r j z hz hj hjm
  rw [World.var?_cell h1 h3 _, ← Array.getElem?_toList]
  exact trod_bools2 hu he hb hcb hce h4 i r j z hz hj hjm
end

theorem gSigns : Tryd.prog.globalNamed "sennit/rings.signs" = some 1 := by kernel_rfl
/-- The signs lie as they should. -/
theorem signs_of {l : List (String × DataW Unit)} {w : World} (h : laidMetH Tryd.prog l w) (hp : (l.all fun x => x.2.handleName?.isNone) = true) (hm : ("sennit/rings.signs", DataW.agg [.lit (.int .i64 1), .lit (.int .i64 (-1))]) ∈ l) : Signs w := by
  rw [MakeChecks.laidMetH_plain _ _ _ hp] at h
  have key := laid_nums h (zs := [1, -1]) (k := .i64) hm gSigns (show (Tryd.prog.globals[1]?).map (·.type) = some 54 by kernel_rfl) Tryd.underlying54 Tryd.underlying3 (by kernel_rfl)
  have h0 := key 0 1 rfl
  exact ⟨h0, key 1 (-1) rfl, World.block_lt_of_cell? w _ h0⟩
end Go.Proofs.YtibncdkekceokaaDoor
