/- Arguments opened: a config, a view. -/
import Derived.Test.YtibncdkekceokaaDoorFrame
import Derived.Test.YtibncdkekceokaaDoorCfg
import Derived.Deep.Slices
namespace Go.Proofs.YtibncdkekceokaaDoor
open Go.ChangeShapes Go.WideShapes Go.ChangeAt Go.WideMaps Go.WideElems Go.RowKit Go.Deep

theorem cfg_types : Tryd.prog.cellTypes Tryd.prog.depth 25 = some [3, 22, 22, 3, 22, 23, 3, 3, 3] := by kernel_rfl
theorem cells_int : Tryd.prog.cellsOf 3 = 1 := by kernel_rfl
theorem cells_ints : Tryd.prog.cellsOf 22 = 1 := by kernel_rfl
theorem cells_sts : Tryd.prog.cellsOf 23 = 1 := by kernel_rfl
theorem cells_st : Tryd.prog.cellsOf 53 = 3 := by kernel_rfl
theorem cells_u32 : Tryd.prog.cellsOf 51 = 1 := by kernel_rfl
theorem cells_cfg : Tryd.prog.cellsOf 25 = 9 := by kernel_rfl
/-- A slice's cell is a slice that stands at cells. -/
theorem cell_slice {P : Program} {w : World} {r : Reach} {base : Nat} {t e : TypeId} {v : Value} (hu : P.underlying t = some (.slice e)) (h : Cell.okWide P w r base t v) : ∃ a n cap, v = .slice a n cap ∧ SliceOK a n cap := by
  simp only [Cell.okWide, hu] at h
  unfold Cell.ok at h
  rw [hu] at h
  cases v with
  | slice a n cap =>
    refine ⟨a, n, cap, rfl, ?_⟩
    cases a with
    | none =>
      cases n with
      | zero =>
        cases cap with
        | zero => exact ⟨Nat.le_refl _, fun _ => ⟨rfl, rfl⟩, fun _ h => by cases h⟩
        | succ _ => simp at h
      | succ _ => simp at h
    | some a =>
      obtain ⟨h1, _, h3⟩ := h
      obtain ⟨b, off, spot⟩ := a
      have h4 := h3.2.1
      simp only at h4
      subst h4
      exact ⟨h1, (fun h => by cases h), fun _ h => by cases h; exact ⟨b, off, rfl⟩⟩
  | _ => simp at h

section
variable {H : Type} {enc : TypeId × Value → H} {w : World} {fuel : Nat}
theorem open_ints_reads {a : Option Addr} {n cap : Nat} {x : DataW H × List MemPlace} (ok : SliceOK a n cap) (h : DataW.trod enc Tryd.prog w 0 (fun _ => true) true fuel 22 [.slice a n cap] = some x) : ∃ xs, Reads w eI a n xs := by
  rcases open_ints Tryd.underlying22 Tryd.underlying3 cells_int h with ⟨h1, _⟩ | ⟨ad, len, cap', zs, h1, _, h2, h3, h4, _, h5, _⟩
  · simp only [List.cons.injEq, Value.slice.injEq, and_true] at h1
    obtain ⟨rfl, rfl, rfl⟩ := h1
    exact ⟨[], rfl, by omega, fun i hi => by omega⟩
  · simp only [List.cons.injEq, Value.slice.injEq, and_true] at h1
    obtain ⟨rfl, rfl, rfl⟩ := h1
    obtain ⟨b, off, rfl⟩ := ok.addr _ rfl
    simp only [if_true] at h4
    have hm : maxLen ≤ 9223372036854775807 := by decide
    refine ⟨zs.take n, by simp; omega, by omega, fun i hi => ⟨b, off, rfl, ?_⟩⟩
    have h6 := h5 i (by omega)
    have e : (⟨b, off, none⟩ : Addr).add i = ⟨b, off + i, none⟩ := by unfold Addr.add; split <;> simp_all
    rw [e] at h6
    rw [h6, List.getElem_take, List.getD_eq_getElem?_getD, List.getElem?_eq_getElem (by omega)]
    rfl
set_option maxRecDepth 10000 in
theorem open_sts_reads {a : Option Addr} {n cap : Nat} {x : DataW H × List MemPlace} (ok : SliceOK a n cap) (h : DataW.trod enc Tryd.prog w 0 (fun _ => true) true fuel 23 [.slice a n cap] = some x) : ∃ xs, ReadsSt w a n xs := by
  rcases open_slice Tryd.underlying23 h with ⟨h1, _⟩ | ⟨ad, len, cap', m, q, D, Pl, h1, _, h2, h3, h4, _, h5⟩
  · simp only [List.cons.injEq, Value.slice.injEq, and_true] at h1
    obtain ⟨rfl, rfl, rfl⟩ := h1
    exact ⟨[], rfl, by omega, fun i hi => by omega⟩
  · simp only [List.cons.injEq, Value.slice.injEq, and_true] at h1
    obtain ⟨rfl, rfl, rfl⟩ := h1
    obtain ⟨b, off, rfl⟩ := ok.addr _ rfl
    simp only [if_true] at h4
    have hm : maxLen ≤ 9223372036854775807 := by decide
    have key : ∀ i, i < n → ∃ s : Int × Int × Int, w.cell? ⟨b, off + i * 3, none⟩ = some (.int .i64 s.1) ∧ w.cell? ⟨b, off + i * 3 + 1, none⟩ = some (.int .u32 s.2.1) ∧ w.cell? ⟨b, off + i * 3 + 2, none⟩ = some (.int .i64 s.2.2) := fun i hi => by
      obtain ⟨cs, h6, h7⟩ := h5 i (by omega)
      rw [cells_st] at h6
      obtain ⟨xs, k, _, _, hl, hxl, hf⟩ := DataW.trod_struct Tryd.underlying53 h7
      rw [cells_st] at hl
      obtain ⟨_, hlen, hcell⟩ := World.cells?_some h6
      match cs, hl with
      | [c0, c1, c2], _ =>
        have u0 := hf 0 _ rfl
        have u1 := hf 1 _ rfl
        have u2 := hf 2 _ rfl
        match xs, hxl with
        | [x0, x1, x2], _ =>
          simp [cells_int] at u0
          simp [cells_u32] at u1
          simp [cells_int] at u2
          obtain ⟨z0, e0, _, _⟩ := DataW.trod_int Tryd.underlying3 u0
          obtain ⟨z1, e1, _, _⟩ := DataW.trod_int Tryd.underlying51 u1
          obtain ⟨z2, e2, _, _⟩ := DataW.trod_int Tryd.underlying3 u2
          have k0 := hcell 0 (by omega)
          have k1 := hcell 1 (by omega)
          have k2 := hcell 2 (by omega)
          simp only [List.cons.injEq, and_true] at e0 e1 e2
          subst e0 e1 e2
          have ea : ∀ q, ((⟨b, off, none⟩ : Addr).add (i * 3)).add q = ⟨b, off + i * 3 + q, none⟩ := fun q => by
            rw [add_add]
            unfold Addr.add
            split
            · rename_i hz
              have h0 : i = 0 := by omega
              have h1 : q = 0 := by omega
              subst h0 h1
              simp
            · show (⟨b, off + (i * 3 + q), none⟩ : Addr) = _
              rw [Nat.add_assoc]
          rw [ea] at k0 k1 k2
          exact ⟨(z0, z1, z2), k0, k1, k2⟩
    obtain ⟨f, hf⟩ := choose_lt key
    refine ⟨(List.range n).map f, by simp, by omega, fun i hi => ⟨b, off, rfl, ?_⟩⟩
    have := hf i hi
    simpa using this
set_option maxRecDepth 10000 in
theorem open_cfg {base : Nat} {v : Value} {d : DataW H} {p : List MemPlace} (hval : Value.okWide Tryd.prog w .any base 25 v) (hd : DataW.Trod enc Tryd.prog w 0 (fun _ => true) true 25 v d p) :
    ∃ (nodes long miss good fresh : Int) (pa sa ba ta : Option Addr) (pn pc sn sc bn bc tn tc : Nat) (ps ss bs : List Int) (ts : List (Int × Int × Int)), v = .agg #[.int .i64 nodes, .slice pa pn pc, .slice sa sn sc, .int .i64 long, .slice ba bn bc, .slice ta tn tc, .int .i64 miss, .int .i64 good, .int .i64 fresh] ∧ CfgIn w nodes long miss good fresh pa sa ba ta pn pc sn sc bn bc tn tc ps ss bs ts := by
  simp only [Value.okWide, Tryd.underlying25] at hval
  obtain ⟨cs, rfl, hsz, ts, hts, _, hrow⟩ := hval
  rw [cfg_types] at hts
  obtain rfl := Option.some.inj hts
  obtain ⟨fuel, hf⟩ := hd
  obtain ⟨xs, k, _, _, hl, hxl, hfl⟩ := DataW.trod_struct Tryd.underlying25 hf
  rw [cells_cfg] at hsz hl
  obtain ⟨l⟩ := cs
  match l, hl, xs, hxl with
  | [c0, c1, c2, c3, c4, c5, c6, c7, c8], _, [x0, x1, x2, x3, x4, x5, x6, x7, x8], _ =>
    have u0 := hfl 0 _ rfl
    have u1 := hfl 1 _ rfl
    have u2 := hfl 2 _ rfl
    have u3 := hfl 3 _ rfl
    have u4 := hfl 4 _ rfl
    have u5 := hfl 5 _ rfl
    have u6 := hfl 6 _ rfl
    have u7 := hfl 7 _ rfl
    have u8 := hfl 8 _ rfl
    simp [Value.cells, cells_int, cells_ints, cells_sts] at u0 u1 u2 u3 u4 u5 u6 u7 u8
    obtain ⟨nodes, e0, _, _⟩ := DataW.trod_int Tryd.underlying3 u0
    obtain ⟨long, e3, _, _⟩ := DataW.trod_int Tryd.underlying3 u3
    obtain ⟨miss, e6, _, _⟩ := DataW.trod_int Tryd.underlying3 u6
    obtain ⟨good, e7, _, _⟩ := DataW.trod_int Tryd.underlying3 u7
    obtain ⟨fresh, e8, _, _⟩ := DataW.trod_int Tryd.underlying3 u8
    simp only [List.cons.injEq, and_true] at e0 e3 e6 e7 e8
    subst e0 e3 e6 e7 e8
    obtain ⟨t1, h1, o1⟩ := hrow 1 c1 rfl
    obtain ⟨t2, h2, o2⟩ := hrow 2 c2 rfl
    obtain ⟨t4, h4, o4⟩ := hrow 4 c4 rfl
    obtain ⟨t5, h5, o5⟩ := hrow 5 c5 rfl
    obtain rfl : _ = t1 := Option.some.inj h1
    obtain rfl : _ = t2 := Option.some.inj h2
    obtain rfl : _ = t4 := Option.some.inj h4
    obtain rfl : _ = t5 := Option.some.inj h5
    obtain ⟨pa, pn, pc, rfl, k1⟩ := cell_slice Tryd.underlying22 o1
    obtain ⟨sa, sn, sc, rfl, k2⟩ := cell_slice Tryd.underlying22 o2
    obtain ⟨ba, bn, bc, rfl, k4⟩ := cell_slice Tryd.underlying22 o4
    obtain ⟨ta, tn, tc, rfl, k5⟩ := cell_slice Tryd.underlying23 o5
    obtain ⟨ps, r1⟩ := open_ints_reads k1 u1
    obtain ⟨ss, r2⟩ := open_ints_reads k2 u2
    obtain ⟨bs, r4⟩ := open_ints_reads k4 u4
    obtain ⟨ts, r5⟩ := open_sts_reads k5 u5
    exact ⟨nodes, long, miss, good, fresh, pa, sa, ba, ta, pn, pc, sn, sc, bn, bc, tn, tc, ps, ss, bs, ts, rfl, ⟨k1, k2, k4, k5, r1, r2, r4, r5⟩⟩
end
end Go.Proofs.YtibncdkekceokaaDoor
