/- slices and cmp at ints: IsSorted, Index, Contains. -/
import Derived.Test.YtibncdkekceokaaDoorBase
namespace Go.Proofs.YtibncdkekceokaaDoor
open Go.RowKit

theorem isNaN_any (x : Int) (w : World) :
    Calls Tryd.prog 134 #[.int .i64 x] w fun e w' => e = .returned (.bool false) ∧ w = w' := by
  go_enter Tryd.func134, Tryd.ntmps134
  go_wp2
  go_ret
  exact ⟨by simp, rfl⟩
theorem less_any (x y : Int) (w : World) :
    Calls Tryd.prog 124 #[.int .i64 x, .int .i64 y] w fun e w' => e = .returned (.bool (decide (x < y))) ∧ w = w' := by
  go_enter Tryd.func124, Tryd.ntmps124
  go_wp2_with (go_at_call 134; refine (isNaN_any _ _).mono ?_; rintro e w' ⟨rfl, rfl⟩)
  all_goals (go_ret; exact ⟨by simp, rfl⟩)

/-- Is a list sorted, as slices.IsSorted looks? -/
def sortedB (xs : List Int) : Bool := decide (xs.Pairwise (· ≤ ·))
theorem pairwise_of_adj (xs : List Int) (h : ∀ j (h : j + 1 < xs.length), xs[j] ≤ xs[j + 1]) : xs.Pairwise (· ≤ ·) := by
  rw [List.pairwise_iff_getElem]
  intro i j hi hj hij
  induction j with
  | zero => omega
  | succ j ih =>
    have h1 := h j hj
    by_cases e : i = j
    · subst e; exact h1
    · exact Int.le_trans (ih (by omega) (by omega)) h1

theorem isSorted_any (a : Option Addr) (n cap : Nat) (xs : List Int) (w : World) (hr : Reads w eI a n xs) :
    Calls Tryd.prog 101 #[.slice a n cap] w fun e w' => e = .returned (.bool (sortedB xs)) ∧ ∃ k, w' = w.drewN k := by
  have hsm := hr.small
  have hlen := Lib.hid hr.len
  go_enter Tryd.func101, Tryd.ntmps101
  go_wp2
  go_loopw [3] (fun i wr => ∃ (z : Int) (q : Nat), i = .int .i64 z ∧ -1 ≤ z ∧ z < n ∧ (∀ (j : Nat) (h : j + 1 < xs.length), z ≤ j → xs[j] ≤ xs[j + 1]) ∧ wr = w.drewN q) (fun i _ => (intOf i).toNat)
  case atStart =>
    refine ⟨(n : Int) - 1, 0, rfl, by omega, by omega, ?_, rfl⟩
    intro j h hz
    have := hlen.out
    omega
  case round =>
    obtain ⟨z, q, rfl, hz1, hz2, hs, hwr⟩ := hrel
    have HW := Lib.hid hwr
    have hrw : Reads wr eI a n xs := by rw [hwr]; exact hr.drawn q
    clear hwr
    have HS := Lib.hid hs
    clear hs
    by_cases hlt : 0 < z
    · obtain ⟨k, rfl⟩ : ∃ k : Nat, z = (k : Int) + 1 := ⟨(z - 1).toNat, by omega⟩
      obtain ⟨b, off, rfl, hc⟩ := hrw.base (by omega)
      have hc1 := hc (k + 1) (by omega)
      have hc0 := hc k (by omega)
      clear hc
      generalize hx : xs[k + 1]'(by have := hlen.out; omega) = x at hc1
      generalize hy : xs[k]'(by have := hlen.out; omega) = y at hc0
      have HX := Lib.hid hx
      have HY := Lib.hid hy
      clear hx hy
      unfold eI at hc0 hc1
      have b0 : 0 ≤ (k : Int) + 1 := by omega
      have b1 : (k : Int) + 1 < n := hz2
      have b2 : (k : Int) < n := by omega
      have b3 : ((k : Int) + 1).toNat = k + 1 := by omega
      have b4 : IntKind.i64.wrap ((k : Int) + 1 - 1) = (k : Int) := by rw [IntKind.wrap_i64]; omega
      clear hz1
      go_wp2
      go_quiet ((go_at_call 124; exact quiet_eq (less_any _ _ _)))
      go_wp2
      · have ht : x < y := by assumption
        go_ret
        refine ⟨ret_bool ?_, _, by rw [HW.out]; exact World.drewN_drewN ..⟩
        symm
        simp only [sortedB, decide_eq_false_iff_not]
        intro hp
        have := List.pairwise_iff_getElem.1 hp k (k + 1) (by have := hlen.out; omega) (by have := hlen.out; omega) (by omega)
        rw [HX.out, HY.out] at this
        exact absurd ht (Int.not_lt.2 this)
      · have ht : y ≤ x := by assumption
        go_roundw
        case rel =>
          refine ⟨k, _, rfl, by omega, by omega, ?_, by rw [HW.out]; exact World.drewN_drewN ..⟩
          intro j h hz
          by_cases e : j = k
          · subst e
            rw [HX.out, HY.out]
            exact ht
          · have h9 : (k : Int) + 1 ≤ j := by omega
            exact HS.out j h h9
        case measure => simp [intOf]
    · go_wp2
      go_ret
      refine ⟨ret_bool ?_, _, HW.out⟩
      symm
      simp only [sortedB, decide_eq_true_eq]
      exact pairwise_of_adj xs fun j h => HS.out j h (by omega)

theorem index_any (a : Option Addr) (n cap : Nat) (xs : List Int) (m : Int) (w : World) (hr : Reads w eI a n xs) :
    Calls Tryd.prog 128 #[.slice a n cap, .int .i64 m] w fun e w' => (∃ i : Int, e = .returned (.int .i64 i) ∧ (0 ≤ i ↔ m ∈ xs)) ∧ w = w' := by
  have hsm := hr.small
  have hlen := Lib.hid hr.len
  go_enter Tryd.func128, Tryd.ntmps128
  go_wp2
  go_loop [8] (fun i => ∃ k : Nat, k ≤ n ∧ i = .int .i64 k ∧ ¬ m ∈ xs.take k) (fun i => n - (intOf i).toNat)
  case atStart => exact ⟨0, Nat.zero_le _, rfl, by simp⟩
  case round =>
    obtain ⟨k, hk, rfl, he⟩ := hrel
    have HE := Lib.hid he
    clear he
    by_cases hlt : k < n
    · obtain ⟨b, off, rfl, hc⟩ := hr.cells k hlt
      have HT := Lib.hid (List.take_succ_eq_append_getElem (l := xs) (i := k) (by have := hr.len; omega))
      have HM := Lib.hid (List.getElem_mem (l := xs) (n := k) (by have := hr.len; omega))
      generalize hx : xs[k]'(by have := hr.len; omega) = x at hc HT HM
      clear hx
      unfold eI at hc
      go_wp2
      · have ht : (m == x) = true := by assumption
        go_ret
        refine ⟨⟨_, rfl, ?_⟩, rfl⟩
        constructor
        · intro _; have := HM.out; rw [show m = x by simpa using ht]; exact this
        · intro _; omega
      · have ht : (m == x) = false := by assumption
        go_round
        case rel =>
          refine ⟨k + 1, by omega, by go_num, ?_⟩
          intro hy
          rw [HT.out] at hy
          rcases List.mem_append.1 hy with h | h
          · exact HE.out h
          · have := List.mem_singleton.1 h
            simp [this] at ht
        case measure => simp [intOf]; omega
    · go_wp2
      go_ret
      refine ⟨⟨_, rfl, ?_⟩, rfl⟩
      have := HE.out
      rw [List.take_of_length_le (by have := hr.len; omega)] at this
      constructor
      · intro h; omega
      · intro h; exact absurd h this
theorem contains_any (a : Option Addr) (n cap : Nat) (xs : List Int) (m : Int) (w : World) (hr : Reads w eI a n xs) :
    Calls Tryd.prog 105 #[.slice a n cap, .int .i64 m] w fun e w' => e = .returned (.bool (decide (m ∈ xs))) ∧ w = w' := by
  go_enter Tryd.func105, Tryd.ntmps105
  go_wp2_with fail
  refine (index_any _ _ _ xs m _ hr).mono ?_
  rintro e w' ⟨⟨i, rfl, hi⟩, rfl⟩
  have HI := Lib.hid hi
  clear hi
  go_wp2
  go_ret
  refine ⟨ret_bool ?_, rfl⟩
  rw [Bool.eq_iff_iff]
  simpa using HI.out
end Go.Proofs.YtibncdkekceokaaDoor
