/- configs.rules: the third: a config's pairs. -/
import Derived.Test.YtibncdkekceokaaDoorSingle
import Derived.Test.YtibncdkekceokaaDoorRulesB
import Derived.Test.YtibncdkekceokaaDoorHalves
namespace Go.Proofs.YtibncdkekceokaaDoor
open Go.RowKit

theorem own_ints {w : World} {base : Nat} {v : Value} {n : Nat} {zs : List Int} (h : w.ownsRow base 3 1 v n (zs.map eI)) : (∃ a cap, v = .slice a n cap) ∧ n = zs.length ∧ IntsAt w.heap.size w v zs := by
  have hn : n = zs.length := by have := h.1; simpa using this.symm
  refine ⟨?_, hn, ?_⟩
  · rcases h.2 with ⟨rfl, rfl⟩ | ⟨g, cap, cur, rfl, _⟩
    · exact ⟨_, _, rfl⟩
    · exact ⟨_, _, rfl⟩
  · subst hn
    rcases h.2 with ⟨rfl, h0⟩ | ⟨g, cap, cur, rfl, hb, hg, _⟩
    · exact .inl ⟨rfl, List.eq_nil_of_length_eq_zero h0⟩
    · refine .inr ⟨g, 0, cap, rfl, (Array.getElem?_eq_some_iff.1 hg).1, fun j hj => ?_⟩
      have := h.cells (g := g) rfl j (eI (zs[j]?.getD 0)) (by simp [hj])
      have e : (⟨g, 0, none⟩ : Addr).add j = ⟨g, j, none⟩ := by unfold Addr.add; split <;> simp_all
      rw [e] at this
      rw [Nat.zero_add]
      exact this

def rule3B (nodes : Int) (ps : List Int) : Bool := insideB ps nodes && sortedB ps && singleB (halvesL nodes ps)
set_option maxHeartbeats 2000000 in
theorem rule3_any (nodes long miss good fresh : Int) (pa sa ba ta : Option Addr) (pn pc sn sc bn bc tn tc : Nat) (ps : List Int) (w : World) (hs : Signs w) (hr : Reads w eI pa pn ps) (h0 : 0 < pn) (hpn : pn ≤ 400000) :
    Calls Tryd.prog 98 #[.agg #[.int .i64 nodes, .slice pa pn pc, .slice sa sn sc, .int .i64 long, .slice ba bn bc, .slice ta tn tc, .int .i64 miss, .int .i64 good, .int .i64 fresh]] w fun e w' => e = .returned (.int .i64 (mustE (rule3B nodes ps))) ∧ Below w.heap.size w w' := by
  have hb := (Below.refl w.heap.size w).alloc (Nat.le_refl _) (.cells #[.int .i64 nodes, .slice pa pn pc, .slice sa sn sc, .int .i64 long, .slice ba bn bc, .slice ta tn tc, .int .i64 miss, .int .i64 good, .int .i64 fresh] 25)
  have hl := Lib.hid hr.len
  have HI := Lib.hid (inside_any pa pn pc ps nodes _ (hr.below hb))
  have hc : ∀ i v, (#[.int .i64 nodes, .slice pa pn pc, .slice sa sn sc, .int .i64 long, .slice ba bn bc, .slice ta tn tc, .int .i64 miss, .int .i64 good, .int .i64 fresh])[i]? = some v → (w.alloc (.cells #[.int .i64 nodes, .slice pa pn pc, .slice sa sn sc, .int .i64 long, .slice ba bn bc, .slice ta tn tc, .int .i64 miss, .int .i64 good, .int .i64 fresh] 25)).cell? ⟨w.heap.size, i, none⟩ = some v := fun i v h => by rw [World.cell?_alloc_at _ _ _ _ rfl]; exact h
  have HC := Lib.hid hc
  clear hc
  have R3 : ∀ b1 b2 b3 : Bool, b1 = insideB ps nodes → b2 = sortedB ps → b3 = singleB (halvesL nodes ps) → rule3B nodes ps = (b1 && b2 && b3) := fun b1 b2 b3 e1 e2 e3 => by subst e1 e2 e3; rfl
  have HR := Lib.hid R3
  clear R3
  go_enter Tryd.func98, Tryd.ntmps98
  go_wp2_with fail
  refine HI.out.mono ?_
  rintro e w1 ⟨rfl, hb1⟩
  simp only [World.size_alloc] at hb1
  have hw1 : Below w.heap.size w w1 := hb.trans (hb1.mono (by omega))
  have cells : ∀ i v, (#[.int .i64 nodes, .slice pa pn pc, .slice sa sn sc, .int .i64 long, .slice ba bn bc, .slice ta tn tc, .int .i64 miss, .int .i64 good, .int .i64 fresh])[i]? = some v → w1.cell? ⟨w.heap.size, i, none⟩ = some v := fun i v h => (hb1.cell (p := ⟨w.heap.size, i, none⟩) (by simp)).trans (HC.out i v h)
  have q0 := cells 0 _ rfl
  have q1 := cells 1 _ rfl
  have q2 := cells 2 _ rfl
  have q3 := cells 3 _ rfl
  have q4 := cells 4 _ rfl
  have q5 := cells 5 _ rfl
  have q6 := cells 6 _ rfl
  have q7 := cells 7 _ rfl
  have q8 := cells 8 _ rfl
  have hr1 := hr.below hw1
  have hs1 := hs.below hw1
  have HW := Lib.hid hw1
  clear hb hb1 hw1 cells HC
  generalize hB : insideB ps nodes = bi
  have HB := Lib.hid hB
  clear hB
  cases bi with
  | false =>
    go_wp2_with (go_at_call 99; refine (must_any _ _).mono ?_; rintro e w' ⟨rfl, rfl⟩)
    go_ret
    exact ⟨ret_int (by rw [HR.out false _ _ HB.out.symm rfl rfl]; rfl), HW.out⟩
  | true =>
    go_wp2_with fail
    refine (isSorted_any _ _ _ ps _ hr1).mono ?_
    rintro e w2 ⟨rfl, k2, rfl⟩
    generalize hB2 : sortedB ps = bs
    have HB2 := Lib.hid hB2
    clear hB2
    cases bs with
    | false =>
      go_wp2_with (go_at_call 99; refine (must_any _ _).mono ?_; rintro e w' ⟨rfl, rfl⟩)
      go_ret
      exact ⟨ret_int (by rw [HR.out true false _ HB.out.symm HB2.out.symm rfl]; rfl), below_drewN HW.out _⟩
    | true =>
      go_wp2_with fail
      refine (halves_any nodes long miss good fresh pa pn pc _ _ _ ps _ (hs1.drawn k2) (hr1.drawn k2) (by omega)).mono ?_
      rintro e w3 ⟨v, rfl, ho, hb3⟩
      obtain ⟨⟨va, vc, rfl⟩, hn, hI⟩ := own_ints ho
      have hlen : (halvesL nodes ps).length = 2 * pn := by omega
      have HS := Lib.hid (single_any va (2 * pn) vc (halvesL nodes ps) (by omega) (by omega) w3 hI)
      have HW3 := Lib.hid ((below_drewN HW.out k2).trans (hb3.mono (by have := HW.out.size; exact this)))
      clear ho hn hI hlen hb3
      go_wp2_with fail
      refine HS.out.mono ?_
      rintro e w4 ⟨rfl, hb4⟩
      have HW4 := Lib.hid (HW3.out.trans (hb4.mono (by have := HW3.out.size; exact this)))
      clear hb4
      go_wp2_with (go_at_call 99; refine (must_any _ _).mono ?_; rintro e w' ⟨rfl, rfl⟩)
      go_ret
      exact ⟨ret_int (by rw [HR.out true true _ HB.out.symm HB2.out.symm rfl]; rfl), HW4.out⟩
end Go.Proofs.YtibncdkekceokaaDoor
