/- Payloads and acts opened. -/
import Derived.Test.YtibncdkekceokaaDoorOpenS
namespace Go.Proofs.YtibncdkekceokaaDoor
open Go.ChangeShapes Go.WideShapes Go.ChangeAt Go.WideMaps Go.WideElems Go.RowKit Go.Deep

set_option maxRecDepth 100000
section
variable {w : World} {base : Nat} {v : Value}
theorem has_u8i {n : Int} (h : IntKind.u8.has n) : 0 ≤ n ∧ n ≤ 255 := ⟨h.1, h.2⟩
theorem has_u32i {n : Int} (h : IntKind.u32.has n) : 0 ≤ n ∧ n ≤ 4294967295 := ⟨h.1, h.2⟩
/-- A payload that a payload may be. -/
def PayB (k s q v : Int) : Prop := (0 ≤ k ∧ k ≤ 255) ∧ (0 ≤ s ∧ s ≤ 255) ∧ (0 ≤ q ∧ q ≤ 4294967295) ∧ (0 ≤ v ∧ v ≤ 4294967295)
theorem open_pay (hval : Value.okWide Tryd.prog w .any base 96 v) : ∃ a b c d : Int, v = .agg #[.int .u8 a, .int .u8 b, .int .u32 c, .int .u32 d] ∧ PayB a b c d := by
  obtain ⟨cs, rfl, hl, hc⟩ := open_flat (ts := [94, 5, 51, 51]) (by kernel_rfl) (by kernel_rfl) Tryd.underlying96 rfl hval
  match cs, hl with
  | [c0, c1, c2, c3], _ =>
    obtain ⟨n0, rfl, h0⟩ := cell_int Tryd.underlying94 (hc 0 c0 _ rfl rfl)
    obtain ⟨n1, rfl, h1⟩ := cell_int Tryd.underlying5 (hc 1 c1 _ rfl rfl)
    obtain ⟨n2, rfl, h2⟩ := cell_int Tryd.underlying51 (hc 2 c2 _ rfl rfl)
    obtain ⟨n3, rfl, h3⟩ := cell_int Tryd.underlying51 (hc 3 c3 _ rfl rfl)
    exact ⟨n0, n1, n2, n3, rfl, has_u8i h0, has_u8i h1, has_u32i h2, has_u32i h3⟩
theorem open_act (hval : Value.okWide Tryd.prog w .any base 113 v) : ∃ (x : Bool) (p a b c d r : Int), v = .agg #[.bool x, .int .i64 p, .int .u8 a, .int .u8 b, .int .u32 c, .int .u32 d, .int .i64 r] ∧ I64 p ∧ PayB a b c d ∧ I64 r := by
  obtain ⟨cs, rfl, hl, hc⟩ := open_flat (ts := [4, 3, 94, 5, 51, 51, 2]) (by kernel_rfl) (by kernel_rfl) Tryd.underlying113 rfl hval
  match cs, hl with
  | [x, y, c0, c1, c2, c3, z], _ =>
    obtain ⟨b, rfl⟩ := cell_bool Tryd.underlying4 (hc 0 x _ rfl rfl)
    obtain ⟨p, rfl, hp⟩ := cell_int Tryd.underlying3 (hc 1 y _ rfl rfl)
    obtain ⟨n0, rfl, h0⟩ := cell_int Tryd.underlying94 (hc 2 c0 _ rfl rfl)
    obtain ⟨n1, rfl, h1⟩ := cell_int Tryd.underlying5 (hc 3 c1 _ rfl rfl)
    obtain ⟨n2, rfl, h2⟩ := cell_int Tryd.underlying51 (hc 4 c2 _ rfl rfl)
    obtain ⟨n3, rfl, h3⟩ := cell_int Tryd.underlying51 (hc 5 c3 _ rfl rfl)
    obtain ⟨r, rfl, hr⟩ := cell_int Tryd.underlying2 (hc 6 z _ rfl rfl)
    exact ⟨b, p, n0, n1, n2, n3, r, rfl, ⟨hp.1, hp.2⟩, ⟨has_u8i h0, has_u8i h1, has_u32i h2, has_u32i h3⟩, ⟨hr.1, hr.2⟩⟩
end
end Go.Proofs.YtibncdkekceokaaDoor
