/- A net's methods that only read. -/
import Derived.Test.YtibncdkekceokaaDoorCfg
import Derived.Laws.EntriesVeiled
namespace Go.Proofs.YtibncdkekceokaaDoor
open Go.RowKit

/-- A net in memory: its ten cells, and what its lists hold. -/
structure NetV (w : World) (b : Nat) (c : Cfg) (qs : List Int) (pa sa ba ta qa : Option Addr) : Prop where
  c0 : w.cell? ⟨b, 0, none⟩ = some (.int .i64 c.nodes)
  c1 : w.cell? ⟨b, 1, none⟩ = some (.slice pa c.ps.length c.ps.length)
  c2 : w.cell? ⟨b, 2, none⟩ = some (.slice sa c.ss.length c.ss.length)
  c3 : w.cell? ⟨b, 3, none⟩ = some (.int .i64 c.long)
  c4 : w.cell? ⟨b, 4, none⟩ = some (.slice ba c.bs.length c.bs.length)
  c5 : w.cell? ⟨b, 5, none⟩ = some (.slice ta c.ts.length c.ts.length)
  c6 : w.cell? ⟨b, 6, none⟩ = some (.int .i64 c.miss)
  c7 : w.cell? ⟨b, 7, none⟩ = some (.int .i64 c.good)
  c8 : w.cell? ⟨b, 8, none⟩ = some (.int .i64 c.fresh)
  c9 : w.cell? ⟨b, 9, none⟩ = some (.slice qa qs.length qs.length)
  rp : Reads w eI pa c.ps.length c.ps
  rs : Reads w eI sa c.ss.length c.ss
  rb : Reads w eI ba c.bs.length c.bs
  rt : ReadsSt w ta c.ts.length c.ts
  rq : Reads w eI qa qs.length qs
  op : SliceOK pa c.ps.length c.ps.length
  os : SliceOK sa c.ss.length c.ss.length
  ob : SliceOK ba c.bs.length c.bs.length
  ot : SliceOK ta c.ts.length c.ts.length
/-- A pointer to a net, or to none. -/
def NetP (w : World) (p : Option Addr) (c : Cfg) (qs : List Int) : Prop :=
  (p = none ∧ qs = []) ∨ ∃ b pa sa ba ta qa, p = some ⟨b, 0, none⟩ ∧ NetV w b c qs pa sa ba ta qa
theorem NetV.below {w w' : World} {b : Nat} {c : Cfg} {qs : List Int} {pa sa ba ta qa : Option Addr} (h : NetV w b c qs pa sa ba ta qa) (hb : Below w.heap.size w w') : NetV w' b c qs pa sa ba ta qa := by
  have hlt : b < w.heap.size := World.block_lt_of_cell? w _ h.c0
  have k : ∀ i v, w.cell? ⟨b, i, none⟩ = some v → w'.cell? ⟨b, i, none⟩ = some v := fun i v hv => (hb.cell (p := ⟨b, i, none⟩) hlt).trans hv
  exact ⟨k _ _ h.c0, k _ _ h.c1, k _ _ h.c2, k _ _ h.c3, k _ _ h.c4, k _ _ h.c5, k _ _ h.c6, k _ _ h.c7, k _ _ h.c8, k _ _ h.c9, h.rp.below hb, h.rs.below hb, h.rb.below hb, h.rt.below hb, h.rq.below hb, h.op, h.os, h.ob, h.ot⟩
theorem NetV.drawn {w : World} {b : Nat} {c : Cfg} {qs : List Int} {pa sa ba ta qa : Option Addr} (h : NetV w b c qs pa sa ba ta qa) (k : Nat) : NetV (w.drewN k) b c qs pa sa ba ta qa := h.below (below_drawn w k)
theorem NetP.below {w w' : World} {p : Option Addr} {c : Cfg} {qs : List Int} (h : NetP w p c qs) (hb : Below w.heap.size w w') : NetP w' p c qs := by
  rcases h with h | ⟨b, pa, sa, ba, ta, qa, hp, hv⟩
  · exact .inl h
  · exact .inr ⟨b, pa, sa, ba, ta, qa, hp, hv.below hb⟩
theorem NetP.drawn {w : World} {p : Option Addr} {c : Cfg} {qs : List Int} (h : NetP w p c qs) (k : Nat) : NetP (w.drewN k) p c qs := h.below (below_drawn w k)

/-- A list's value at a place, or -1. -/
def atL (l : List Int) (i : Int) : Int := if 0 ≤ i ∧ i < l.length then l.getD i.toNat 0 else -1
theorem at_any (a : Option Addr) (n cap : Nat) (l : List Int) (i : Int) (w : World) (hr : Reads w eI a n l) :
    Calls Tryd.prog 78 #[.slice a n cap, .int .i64 i] w fun e w' => e = .returned (.int .i64 (atL l i)) ∧ w = w' := by
  have hl := hr.len
  by_cases h1 : i < 0
  · go_enter Tryd.func78, Tryd.ntmps78
    go_wp2
    go_ret
    refine ⟨ret_int ?_, rfl⟩
    simp [atL]; omega
  · by_cases h2 : i < n
    · obtain ⟨k, rfl⟩ : ∃ k : Nat, i = k := ⟨i.toNat, by omega⟩
      have hk : k < n := by omega
      obtain ⟨b, off, rfl, hc⟩ := hr.cells k hk
      have e : atL l k = l[k]'(by omega) := by
        unfold atL
        rw [if_pos (by omega), List.getD_eq_getElem?_getD]
        simp [List.getElem?_eq_getElem (show k < l.length by omega)]
      rw [e]
      generalize l[k]'(by omega) = x at hc
      clear e
      go_enter Tryd.func78, Tryd.ntmps78
      go_wp2
      go_ret
      exact ⟨rfl, rfl⟩
    · go_enter Tryd.func78, Tryd.ntmps78
      go_wp2
      go_ret
      refine ⟨ret_int ?_, rfl⟩
      simp [atL]; omega

theorem there_any (p : Option Addr) (c : Cfg) (qs : List Int) (w : World) (h : NetP w p c qs) :
    Calls Tryd.prog 77 #[.pointer p] w fun e w' => e = .returned (.bool (decide (0 < qs.length))) ∧ w = w' := by
  rcases h with ⟨rfl, rfl⟩ | ⟨b, pa, sa, ba, ta, qa, rfl, hv⟩
  · go_enter Tryd.func77, Tryd.ntmps77
    go_wp2
    go_ret
    exact ⟨rfl, rfl⟩
  · have c9 := hv.c9
    go_enter Tryd.func77, Tryd.ntmps77
    go_wp2
    go_ret
    refine ⟨ret_bool ?_, rfl⟩
    simp

/-- What a net answers from one of its lists. -/
def fromL (qs l : List Int) (i : Int) : Int := if 0 < qs.length then atL l i else -1
theorem netfirst_any (p : Option Addr) (c : Cfg) (qs : List Int) (i : Int) (w : World) (h : NetP w p c qs) :
    Calls Tryd.prog 38 #[.pointer p, .int .i64 i] w fun e w' => e = .returned (.int .i64 (fromL qs c.ps i)) ∧ w = w' := by
  have hth := there_any p c qs w h
  by_cases hq : 0 < qs.length
  · rw [decide_eq_true hq] at hth
    have e : fromL qs c.ps i = atL c.ps i := if_pos hq
    rw [e]
    rcases h with ⟨_, rfl⟩ | ⟨b, pa, sa, ba, ta, qa, rfl, hv⟩
    · exact absurd hq (by simp)
    · have c1 := hv.c1
      go_enter Tryd.func38, Tryd.ntmps38
      go_wp2_with (first | (go_at_call 77; refine (hth).mono ?_; rintro e w' ⟨rfl, rfl⟩) | (go_at_call 78; refine (at_any _ _ _ _ _ _ hv.rp).mono ?_; rintro e w' ⟨rfl, rfl⟩) | fail)
      go_ret
      exact ⟨rfl, rfl⟩
  · rw [decide_eq_false hq] at hth
    have e : fromL qs c.ps i = -1 := if_neg hq
    rw [e]
    go_enter Tryd.func38, Tryd.ntmps38
    go_wp2_with (first | (go_at_call 77; refine (hth).mono ?_; rintro e w' ⟨rfl, rfl⟩) | fail)
    go_ret
    exact ⟨rfl, rfl⟩

theorem owner_any (p : Option Addr) (c : Cfg) (qs : List Int) (i : Int) (w : World) (h : NetP w p c qs) :
    Calls Tryd.prog 37 #[.pointer p, .int .i64 i] w fun e w' => e = .returned (.int .i64 (fromL qs c.ss i)) ∧ w = w' := by
  have hth := there_any p c qs w h
  by_cases hq : 0 < qs.length
  · rw [decide_eq_true hq] at hth
    have e : fromL qs c.ss i = atL c.ss i := if_pos hq
    rw [e]
    rcases h with ⟨_, rfl⟩ | ⟨b, pa, sa, ba, ta, qa, rfl, hv⟩
    · exact absurd hq (by simp)
    · have c2 := hv.c2
      go_enter Tryd.func37, Tryd.ntmps37
      go_wp2_with (first | (go_at_call 77; refine (hth).mono ?_; rintro e w' ⟨rfl, rfl⟩) | (go_at_call 78; refine (at_any _ _ _ _ _ _ hv.rs).mono ?_; rintro e w' ⟨rfl, rfl⟩) | fail)
      go_ret
      exact ⟨rfl, rfl⟩
  · rw [decide_eq_false hq] at hth
    have e : fromL qs c.ss i = -1 := if_neg hq
    rw [e]
    go_enter Tryd.func37, Tryd.ntmps37
    go_wp2_with (first | (go_at_call 77; refine (hth).mono ?_; rintro e w' ⟨rfl, rfl⟩) | fail)
    go_ret
    exact ⟨rfl, rfl⟩

theorem pair_any (p : Option Addr) (c : Cfg) (qs : List Int) (i : Int) (w : World) (h : NetP w p c qs) :
    Calls Tryd.prog 39 #[.pointer p, .int .i64 i] w fun e w' => e = .returned (.int .i64 (fromL qs qs i)) ∧ w = w' := by
  have hth := there_any p c qs w h
  by_cases hq : 0 < qs.length
  · rw [decide_eq_true hq] at hth
    have e : fromL qs qs i = atL qs i := if_pos hq
    rw [e]
    rcases h with ⟨_, rfl⟩ | ⟨b, pa, sa, ba, ta, qa, rfl, hv⟩
    · exact absurd hq (by simp)
    · have c9 := hv.c9
      go_enter Tryd.func39, Tryd.ntmps39
      go_wp2_with (first | (go_at_call 77; refine (hth).mono ?_; rintro e w' ⟨rfl, rfl⟩) | (go_at_call 78; refine (at_any _ _ _ _ _ _ hv.rq).mono ?_; rintro e w' ⟨rfl, rfl⟩) | fail)
      go_ret
      exact ⟨rfl, rfl⟩
  · rw [decide_eq_false hq] at hth
    have e : fromL qs qs i = -1 := if_neg hq
    rw [e]
    go_enter Tryd.func39, Tryd.ntmps39
    go_wp2_with (first | (go_at_call 77; refine (hth).mono ?_; rintro e w' ⟨rfl, rfl⟩) | fail)
    go_ret
    exact ⟨rfl, rfl⟩

end Go.Proofs.YtibncdkekceokaaDoor
