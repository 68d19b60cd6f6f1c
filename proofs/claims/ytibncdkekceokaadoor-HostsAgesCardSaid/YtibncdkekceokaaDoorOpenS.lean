/- Small arguments opened: numbers, bools, short arrays of them. -/
import Derived.Test.YtibncdkekceokaaDoorCoreM
namespace Go.Proofs.YtibncdkekceokaaDoor
open Go.ChangeShapes Go.WideShapes Go.ChangeAt Go.WideMaps Go.WideElems Go.RowKit Go.Deep

set_option maxRecDepth 100000
section
variable {P : Program} {w : World} {base : Nat} {v : Value} {t : TypeId}
theorem open_flat {ts : List TypeId} (ht : P.cellTypes P.depth t = some ts) (hc : P.cellsOf t = ts.length) {d : TypeDesc} (hu : P.underlying t = some d) (hagg : (match d with | .struct _ | .array _ _ => true | _ => false) = true) (hval : Value.okWide P w .any base t v) :
    ∃ cs : List Value, v = .agg ⟨cs⟩ ∧ cs.length = ts.length ∧ ∀ (i : Nat) (c : Value) (u : TypeId), cs[i]? = some c → ts[i]? = some u → Cell.okWide P w .any base u c := by
  have key : ∃ cs : Array Value, v = .agg cs ∧ cs.size = P.cellsOf t ∧ Row.okWide P w .any base t cs := by
    unfold Value.okWide at hval
    rw [hu] at hval
    cases d <;> first | exact hval | (simp at hagg; done)
  obtain ⟨⟨cs⟩, rfl, hsz, ts', hts, _, hrow⟩ := key
  rw [ht] at hts
  obtain rfl := Option.some.inj hts
  have hsz' : cs.length = ts.length := by rw [← hc, ← hsz]; rfl
  refine ⟨cs, rfl, hsz', fun i c u hi hu => ?_⟩
  obtain ⟨u', h1, h2⟩ := hrow i c (by simpa using hi)
  have hlt : i < ts.length := by
    rw [← hsz']
    exact (List.getElem?_eq_some_iff.1 hi).1
  rw [Nat.mod_eq_of_lt hlt, hu] at h1
  obtain rfl := Option.some.inj h1
  exact h2
theorem okWide_cell {d : TypeDesc} (hu : P.underlying t = some d) (hagg : (match d with | .struct _ | .array _ _ => true | _ => false) = false) (hval : Value.okWide P w .any base t v) : Cell.okWide P w .any base t v := by
  unfold Value.okWide at hval
  rw [hu] at hval
  cases d <;> first | exact hval | (simp at hagg; done)
end
section
variable {w : World} {base : Nat} {v : Value}
theorem has_u8 {n : Int} (h : IntKind.u8.has n) : ∃ m : Nat, n = m ∧ m ≤ 255 := by
  have h1 : 0 ≤ n := h.1
  have h2 : n ≤ 255 := h.2
  exact ⟨n.toNat, by omega, by omega⟩
theorem open_u8 (hval : Value.okWide Tryd.prog w .any base 5 v) : ∃ n : Nat, v = .int .u8 n ∧ n ≤ 255 := by
  obtain ⟨n, rfl, h⟩ := cell_int Tryd.underlying5 (okWide_cell Tryd.underlying5 rfl hval)
  obtain ⟨m, rfl, hm⟩ := has_u8 h
  exact ⟨m, rfl, hm⟩
theorem open_u32 (hval : Value.okWide Tryd.prog w .any base 51 v) : ∃ n : Nat, v = .int .u32 n ∧ n ≤ 4294967295 := by
  obtain ⟨n, rfl, h⟩ := cell_int Tryd.underlying51 (okWide_cell Tryd.underlying51 rfl hval)
  have h1 : 0 ≤ n := h.1
  have h2 : n ≤ 4294967295 := h.2
  exact ⟨n.toNat, by rw [Int.toNat_of_nonneg h1], by omega⟩
theorem open_i64 (hval : Value.okWide Tryd.prog w .any base 2 v) : ∃ n : Int, v = .int .i64 n ∧ -9223372036854775808 ≤ n ∧ n ≤ 9223372036854775807 := by
  obtain ⟨n, rfl, h⟩ := cell_int Tryd.underlying2 (okWide_cell Tryd.underlying2 rfl hval)
  exact ⟨n, rfl, h.1, h.2⟩
theorem open_boolS (hval : Value.okWide Tryd.prog w .any base 4 v) : ∃ n : Bool, v = .bool n :=
  cell_bool Tryd.underlying4 (okWide_cell Tryd.underlying4 rfl hval)
theorem open_u8x2 (hval : Value.okWide Tryd.prog w .any base 33 v) : ∃ a b : Nat, v = .agg #[.int .u8 a, .int .u8 b] ∧ a ≤ 255 ∧ b ≤ 255 := by
  obtain ⟨cs, rfl, hl, hc⟩ := open_flat (ts := [5, 5]) (by kernel_rfl) (by kernel_rfl) Tryd.underlying33 rfl hval
  match cs, hl with
  | [c0, c1], _ =>
    obtain ⟨n0, rfl, h0⟩ := cell_int Tryd.underlying5 (hc 0 c0 _ rfl rfl)
    obtain ⟨n1, rfl, h1⟩ := cell_int Tryd.underlying5 (hc 1 c1 _ rfl rfl)
    obtain ⟨m0, rfl, k0⟩ := has_u8 h0
    obtain ⟨m1, rfl, k1⟩ := has_u8 h1
    exact ⟨m0, m1, rfl, k0, k1⟩
theorem open_u8x3 (hval : Value.okWide Tryd.prog w .any base 65 v) : ∃ a b c : Nat, v = .agg #[.int .u8 a, .int .u8 b, .int .u8 c] ∧ a ≤ 255 ∧ b ≤ 255 ∧ c ≤ 255 := by
  obtain ⟨cs, rfl, hl, hc⟩ := open_flat (ts := [5, 5, 5]) (by kernel_rfl) (by kernel_rfl) Tryd.underlying65 rfl hval
  match cs, hl with
  | [c0, c1, c2], _ =>
    obtain ⟨n0, rfl, h0⟩ := cell_int Tryd.underlying5 (hc 0 c0 _ rfl rfl)
    obtain ⟨n1, rfl, h1⟩ := cell_int Tryd.underlying5 (hc 1 c1 _ rfl rfl)
    obtain ⟨n2, rfl, h2⟩ := cell_int Tryd.underlying5 (hc 2 c2 _ rfl rfl)
    obtain ⟨m0, rfl, k0⟩ := has_u8 h0
    obtain ⟨m1, rfl, k1⟩ := has_u8 h1
    obtain ⟨m2, rfl, k2⟩ := has_u8 h2
    exact ⟨m0, m1, m2, rfl, k0, k1, k2⟩
/-- An int that an int may be. -/
def I64 (n : Int) : Prop := -9223372036854775808 ≤ n ∧ n ≤ 9223372036854775807
theorem open_intx2 (hval : Value.okWide Tryd.prog w .any base 54 v) : ∃ a b : Int, v = .agg #[.int .i64 a, .int .i64 b] ∧ I64 a ∧ I64 b := by
  obtain ⟨cs, rfl, hl, hc⟩ := open_flat (ts := [3, 3]) (by kernel_rfl) (by kernel_rfl) Tryd.underlying54 rfl hval
  match cs, hl with
  | [c0, c1], _ =>
    obtain ⟨n0, rfl, h0⟩ := cell_int Tryd.underlying3 (hc 0 c0 _ rfl rfl)
    obtain ⟨n1, rfl, h1⟩ := cell_int Tryd.underlying3 (hc 1 c1 _ rfl rfl)
    exact ⟨n0, n1, rfl, ⟨h0.1, h0.2⟩, ⟨h1.1, h1.2⟩⟩
theorem open_intx4 (hval : Value.okWide Tryd.prog w .any base 74 v) : ∃ a b c d : Int, v = .agg #[.int .i64 a, .int .i64 b, .int .i64 c, .int .i64 d] ∧ I64 a ∧ I64 b ∧ I64 c ∧ I64 d := by
  obtain ⟨cs, rfl, hl, hc⟩ := open_flat (ts := [3, 3, 3, 3]) (by kernel_rfl) (by kernel_rfl) Tryd.underlying74 rfl hval
  match cs, hl with
  | [c0, c1, c2, c3], _ =>
    obtain ⟨n0, rfl, h0⟩ := cell_int Tryd.underlying3 (hc 0 c0 _ rfl rfl)
    obtain ⟨n1, rfl, h1⟩ := cell_int Tryd.underlying3 (hc 1 c1 _ rfl rfl)
    obtain ⟨n2, rfl, h2⟩ := cell_int Tryd.underlying3 (hc 2 c2 _ rfl rfl)
    obtain ⟨n3, rfl, h3⟩ := cell_int Tryd.underlying3 (hc 3 c3 _ rfl rfl)
    exact ⟨n0, n1, n2, n3, rfl, ⟨h0.1, h0.2⟩, ⟨h1.1, h1.2⟩, ⟨h2.1, h2.2⟩, ⟨h3.1, h3.2⟩⟩
end
end Go.Proofs.YtibncdkekceokaaDoor
