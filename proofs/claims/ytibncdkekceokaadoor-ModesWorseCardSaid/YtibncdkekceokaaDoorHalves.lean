/- configs.halves: the halves of a config's pairs, one by one. -/
import Derived.Test.YtibncdkekceokaaDoorRules
namespace Go.Proofs.YtibncdkekceokaaDoor
open Go.RowKit

theorem Tryd.infoInt : (Tryd.prog.info? 3).map (fun i => (i.zero, i.size, i.bytes)) = some (some (.int .i64 0), 1, 8) := by kernel_rfl

/-- The halves of some pairs. -/
def halvesL (n : Int) (ps : List Int) : List Int := ps.flatMap fun a => [a, stepF n 0 a 1]
theorem halvesL_snoc (n : Int) (l : List Int) (a : Int) : halvesL n (l ++ [a]) = halvesL n l ++ [a, stepF n 0 a 1] := by simp [halvesL]
theorem halvesL_length (n : Int) (l : List Int) : (halvesL n l).length = 2 * l.length := by
  induction l with
  | nil => rfl
  | cons a l ih => simp [halvesL] at ih ⊢; omega

/-- A round of the loop, in memory. -/
theorem halves_step {w wr w1 : World} {nodes x : Int} {ps : List Int} {k q pn : Nat} {v v' : Value} (_hl : ps.length = pn) (_hk : k < pn) (_h0 : 0 ≤ k)
    (hown : wr.ownsRow (w.heap.size + 1) 3 1 v (2 * k) ((halvesL nodes (ps.take k)).map eI)) (hcn : wr.cell? ⟨w.heap.size, 0, none⟩ = some (.int .i64 nodes)) (hsz : w.heap.size + 1 ≤ wr.heap.size) (hbl : Below w.heap.size w wr)
    (ht : ps.take (k + 1) = ps.take k ++ [x])
    (hown' : w1.ownsRow (w.heap.size + 1) 3 1 v' (2 * k + 2) ((halvesL nodes (ps.take k)).map eI ++ [eI x, eI (stepF nodes 0 x 1)]))
    (hgrow : ((wr.drewN q).alloc (.cells #[.int .i64 x, .int .i64 (stepF nodes 0 x 1)] 3)).grownBy w1 v.ownBlock) :
    w1.ownsRow (w.heap.size + 1) 3 1 v' (2 * (k + 1)) ((halvesL nodes (ps.take (k + 1))).map eI) ∧ w1.cell? ⟨w.heap.size, 0, none⟩ = some (.int .i64 nodes) ∧ w.heap.size + 1 ≤ w1.heap.size ∧ Below w.heap.size w w1 := by
  have hlt : ∀ g, v.ownBlock = some g → w.heap.size + 1 ≤ g := fun g hg => (hown.lt g hg).1
  refine ⟨?_, ?_, ?_, ?_⟩
  · rw [ht, halvesL_snoc, List.map_append]
    exact hown'
  · refine hgrow.cell ?_ ?_
    · have : (wr.drewN q).cell? ⟨w.heap.size, 0, none⟩ = some (.int .i64 nodes) := hcn
      rw [World.cell?_alloc_past _ _ _ (by simp; omega)]
      exact this
    · intro e
      have := hlt _ e.symm
      simp at this
      omega
  · have := hgrow.size
    simp at this
    omega
  · refine ((below_drewN hbl q).alloc (by simp; omega) _).grown hgrow (by simp; omega) ?_
    intro g hg
    have := hlt g hg
    omega

set_option maxHeartbeats 1000000 in
theorem halves_any (nodes long miss good fresh : Int) (pa : Option Addr) (pn pc : Nat) (sv bv tv : Value) (ps : List Int) (w : World) (hs : Signs w) (hr : Reads w eI pa pn ps) (hn : pn ≤ 1000000) :
    Calls Tryd.prog 70 #[.agg #[.int .i64 nodes, .slice pa pn pc, sv, .int .i64 long, bv, tv, .int .i64 miss, .int .i64 good, .int .i64 fresh]] w fun e w' =>
      ∃ v, e = .returned v ∧ w'.ownsRow (w.heap.size + 1) 3 1 v (2 * pn) ((halvesL nodes ps).map eI) ∧ Below w.heap.size w w' := by
  obtain ⟨i0, hi, hz0, hz1, hz2⟩ := info_parts Tryd.infoInt
  have hb := (Below.refl w.heap.size w).alloc (Nat.le_refl _) (.cells #[.int .i64 nodes, .slice pa pn pc, sv, .int .i64 long, bv, tv, .int .i64 miss, .int .i64 good, .int .i64 fresh] 25)
  go_enter Tryd.func70, Tryd.ntmps70
  go_wp2
  go_loopw [2, 8] (fun v i wr => ∃ k : Nat, k ≤ pn ∧ i = .int .i64 k ∧ wr.ownsRow (w.heap.size + 1) 3 1 v (2 * k) ((halvesL nodes (ps.take k)).map eI) ∧ wr.cell? ⟨w.heap.size, 0, none⟩ = some (.int .i64 nodes) ∧ w.heap.size + 1 ≤ wr.heap.size ∧ Below w.heap.size w wr) (fun _ i _ => pn - (intOf i).toNat)
  case atStart => exact ⟨0, Nat.zero_le _, rfl, World.ownsRow_nil _ _ _ _, by simp [go_sem], by simp, hb⟩
  case round =>
    obtain ⟨k, hk, rfl, hown, hcn, hsz, hbl⟩ := hrel
    by_cases hlt : k < pn
    · obtain ⟨b, off, rfl, hc⟩ := hr.cells k hlt
      have hc1 := (hbl.cell (World.block_lt_of_cell? w _ hc)).trans hc
      have HT := Lib.hid (List.take_succ_eq_append_getElem (l := ps) (i := k) (by have := hr.len; omega))
      generalize hx : ps[k]'(by have := hr.len; omega) = x at hc1 HT
      clear hx hc
      unfold eI at hc1
      have hsg := hs.below hbl
      go_wp2_with fail
      refine (step_any _ _ _ _ _ (by omega) (by omega) (by omega) hsg).mono ?_
      rintro e w' ⟨rfl, q, rfl⟩
      have ho2 := (own_drewN hown q).alloc (.cells #[eI x, eI (stepF nodes 0 x 1)] 3)
      go_wp2_with (at_builtin; refine wpList_append_own _ rfl _ _ 22 rfl (w.heap.size + 1) 3 i0 (.int .i64 0) 1 8 Tryd.underlying22 hi hz0 hz1 hz2 rfl (by decide) _ _ _ rfl ho2 ⟨wr.heap.size, 0, none⟩ 2 2 [eI x, eI (stepF nodes 0 x 1)] rfl rfl ?c1 ?c2 ?c3 ?c4 ?c5 ?_)
      case c1 => exact new_cells _ _ _ _ (by simp) _ rfl
      case c2 => intro u hu; simp at hu; rcases hu with rfl | rfl <;> rfl
      case c3 => unfold maxLen; omega
      case c4 => omega
      case c5 => simp; omega
      intro v' w1 hown' hgrow _
      have R := halves_step hr.len hlt (by omega) hown hcn hsz hbl HT.out hown' hgrow
      have R1 := Lib.hid R
      clear R hown' hgrow hown hcn hbl HT ho2
      go_wp2
      go_roundw
      case rel => exact ⟨k + 1, by omega, by go_num, R1.out⟩
      case measure => simp [intOf]; omega
    · go_wp2
      go_ret
      refine ⟨_, rfl, ?_, hbl⟩
      have e : k = pn := by omega
      subst e
      rw [List.take_of_length_le (by have := hr.len; omega)] at hown
      exact hown
end Go.Proofs.YtibncdkekceokaaDoor
