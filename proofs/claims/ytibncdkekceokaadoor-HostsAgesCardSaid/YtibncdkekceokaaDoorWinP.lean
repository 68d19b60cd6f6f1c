/- Layer 10: places of nodes round the ring, as plain numbers. -/
import Derived.Test.YtibncdkekceokaaDoorWindows
import Derived.Test.YtibncdkekceokaaDoorPairs
namespace Go.Proofs.YtibncdkekceokaaDoor
open Go.RowKit

theorem emod_in {x n : Int} (h0 : 0 ≤ x) (h1 : x < n) : x % n = x := Int.emod_eq_of_lt h0 h1
theorem emod_up {x n : Int} (h0 : x < 0) (h1 : -n ≤ x) : x % n = x + n := by
  have e : x % n = (x + n * 1) % n := by rw [Int.add_mul_emod_self_left]
  rw [e, Int.mul_one]
  exact Int.emod_eq_of_lt (by omega) (by omega)
theorem emod_down {x n : Int} (h0 : n ≤ x) (h1 : x < n + n) : x % n = x - n := by
  have e : x % n = (x + n * (-1)) % n := by rw [Int.add_mul_emod_self_left]
  rw [e, Int.mul_neg, Int.mul_one]
  exact Int.emod_eq_of_lt (by omega) (by omega)
/-- A node's number, so many on. -/
def onG (n a s : Int) : Int := if a + s < n then (if 0 ≤ a + s then a + s else a + s + n) else a + s - n
theorem on_eq {n a s : Int} (h1 : -n ≤ a + s) (h2 : a + s < n + n) : (a + s) % n = onG n a s := by
  unfold onG
  split
  · split
    · exact emod_in (by omega) (by omega)
    · exact emod_up (by omega) (by omega)
  · exact emod_down (by omega) (by omega)
/-- A node's place, in a direction, of the pair whose first half is a. -/
def plG (n d a i : Int) : Int := if d = 0 then (if a ≤ i then i - a else i - a + n) else if a + 1 - i = n ∨ i = a + 1 then 0 else if i ≤ a then a + 1 - i else a + 1 - i + n
theorem ring_ok {n d : Int} (h4 : 4 ≤ n) (h16 : n ≤ 16) (hd : d = 0 ∨ d = 1) : ringB n d = true := by
  unfold ringB; exact decide_eq_true (by omega)
theorem node_ok {n a : Int} (h0 : 0 ≤ a) (h1 : a < n) : nodeB n a = true := by
  unfold nodeB; exact decide_eq_true (by omega)
theorem stepF_cw {n a s : Int} (h4 : 4 ≤ n) (h16 : n ≤ 16) (h0 : 0 ≤ a) (h1 : a < n) (s1 : -2 ≤ s) (s2 : s ≤ 2) : stepF n 0 a s = onG n a s := by
  unfold stepF
  rw [if_pos ⟨ring_ok h4 h16 (.inl rfl), node_ok h0 h1⟩, if_pos rfl, on_eq (by omega) (by omega)]
theorem stepF_ccw {n a s : Int} (h4 : 4 ≤ n) (h16 : n ≤ 16) (h0 : 0 ≤ a) (h1 : a < n) (s1 : -2 ≤ s) (s2 : s ≤ 2) : stepF n 1 a s = onG n a (-s) := by
  unfold stepF
  rw [if_pos ⟨ring_ok h4 h16 (.inr rfl), node_ok h0 h1⟩, if_neg (by omega), Int.sub_eq_add_neg, on_eq (by omega) (by omega)]
theorem placeF_eq {n d a i : Int} (h4 : 4 ≤ n) (h16 : n ≤ 16) (hd : d = 0 ∨ d = 1) (h0 : 0 ≤ a) (h1 : a < n) (i0 : 0 ≤ i) (i1 : i < n) : placeF n d a i = plG n d a i := by
  unfold placeF distF plG
  rcases hd with rfl | rfl
  · rw [if_neg (show ¬ (0 : Int) = 1 by omega), if_pos ⟨ring_ok h4 h16 (.inl rfl), node_ok h0 h1, node_ok i0 i1⟩, if_pos rfl, if_pos rfl]
    split
    · exact emod_in (by omega) (by omega)
    · exact emod_up (by omega) (by omega)
  · rw [if_pos rfl, stepF_cw h4 h16 h0 h1 (by omega) (by omega), if_neg (show ¬ (1 : Int) = 0 by omega)]
    have hb : 0 ≤ onG n a 1 ∧ onG n a 1 < n := by unfold onG; (repeat' split) <;> omega
    rw [if_pos ⟨ring_ok h4 h16 (.inr rfl), node_ok hb.1 hb.2, node_ok i0 i1⟩, if_neg (show ¬ (1 : Int) = 0 by omega)]
    have e : onG n a 1 = if a + 1 = n then 0 else a + 1 := by unfold onG; (repeat' split) <;> omega
    rw [e]
    by_cases e1 : a + 1 = n
    · rw [if_pos e1]
      by_cases e2 : i = 0
      · rw [if_pos (by omega), e2]; exact emod_in (by omega) (by omega)
      · rw [if_neg (by omega), if_pos (by omega), emod_up (by omega) (by omega)]; omega
    · rw [if_neg e1]
      by_cases e2 : i = a + 1
      · rw [if_pos (.inr e2), emod_in (by omega) (by omega)]; omega
      · rw [if_neg (by omega)]
        split
        · exact emod_in (by omega) (by omega)
        · exact emod_up (by omega) (by omega)
theorem plG_in {n d a i : Int} (h0 : 0 ≤ a) (h1 : a < n) (i0 : 0 ≤ i) (i1 : i < n) : 0 ≤ plG n d a i ∧ plG n d a i < n := by
  unfold plG
  repeat' split
  all_goals omega
section
variable {c : Cfg} (h : CfgOK c)
include h
theorem round_val : roundF c.pairs c = (c.ss.length : Int) * c.long := if_pos (pairs_pos' h)
theorem round_pos : 0 < roundF c.pairs c := by
  rw [round_val h]
  have := h.s1
  have := h.l1
  have := h.n4
  exact Int.mul_pos (by omega) (by omega)
theorem round_ne : roundF c.pairs c ≠ 0 := by have := round_pos h; omega
theorem rq_ok : 0 < c.pairs.length → c.ss.length ≤ 16 ∧ 0 ≤ c.long ∧ c.long ≤ 4096 := fun _ => ⟨h.s16, by have := h.l1; have := h.n4; omega, h.l2⟩
theorem first_in (p : Nat) (hp : p < c.ps.length) : 0 ≤ c.ps[p] ∧ c.ps[p] < c.nodes := h.pin _ (List.getElem_mem _)
theorem place_of (d : Int) (hd : d = 0 ∨ d = 1) (p : Nat) (hp : p < c.ps.length) (i : Int) (i0 : 0 ≤ i) (i1 : i < c.nodes) : placeF c.nodes d (fromL c.pairs c.ps (p : Int)) i = plG c.nodes d c.ps[p] i := by
  rw [first_at h p hp]
  exact placeF_eq h.n4 h.n16 hd (first_in h p hp).1 (first_in h p hp).2 i0 i1
theorem win_of (d : Int) (hd : d = 0 ∨ d = 1) (p : Nat) (hp : p < c.ps.length) (i : Int) (i0 : 0 ≤ i) (i1 : i < c.nodes) : winF c.pairs c d p i = winOf (plG c.nodes d c.ps[p] i) ∧ winE c.pairs c d p i = 0 := by
  have hb := first_in h p hp
  have hp0 := plG_in (d := d) hb.1 hb.2 i0 i1
  unfold winF winE
  rw [place_of h d hd p hp i i0 i1, if_neg (by have := round_ne h; omega), if_neg (round_ne h), if_neg (by omega)]
  exact ⟨rfl, rfl⟩
end
end Go.Proofs.YtibncdkekceokaaDoor
