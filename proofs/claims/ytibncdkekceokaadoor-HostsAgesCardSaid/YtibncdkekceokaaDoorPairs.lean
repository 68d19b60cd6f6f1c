/- The pairs of a config that may be: which node is whose half. No program in sight. -/
import Derived.Test.YtibncdkekceokaaDoorNet2
namespace Go.Proofs.YtibncdkekceokaaDoor
open Go.RowKit

theorem pairsUp_get (n : Nat) (hs : List Int) (hin : ∀ x ∈ hs, 0 ≤ x ∧ x < n) (hnd : hs.Nodup) : ∀ k, k ≤ hs.length → ∀ i : Nat, i < n →
    (∀ j, j < k → hs[j]? = some (i : Int) → (pairsUp n hs k)[i]? = some ((j / 2 : Nat) : Int)) ∧ ((∀ j, j < k → hs[j]? ≠ some (i : Int)) → (pairsUp n hs k)[i]? = some (-1)) := by
  intro k
  induction k with
  | zero =>
    intro _ i hi
    refine ⟨fun j hj => by omega, fun _ => ?_⟩
    simp only [pairsUp]
    rw [List.getElem?_replicate, if_pos hi]
  | succ k ih =>
    intro hk i hi
    obtain ⟨h1, h2⟩ := ih (by omega) i hi
    have hlt : k < hs.length := by omega
    have hx : hs.getD k 0 = hs[k] := by rw [List.getD_eq_getElem?_getD, List.getElem?_eq_getElem hlt]; rfl
    have hb := hin hs[k] (List.getElem_mem _)
    simp only [pairsUp, hx]
    rw [List.getElem?_set, pairsUp_length]
    by_cases e : hs[k].toNat = i
    · rw [if_pos e, if_pos (by omega)]
      have hki : hs[k]? = some (i : Int) := by rw [List.getElem?_eq_getElem hlt]; congr 1; omega
      refine ⟨fun j hj hji => ?_, fun hno => absurd hki (hno k (by omega))⟩
      have hj2 : j < hs.length := (List.getElem?_eq_some_iff.1 hji).1
      have : j = k := by
        apply Classical.byContradiction
        intro hne
        have h3 := (List.getElem?_eq_some_iff.1 hji).2
        have h4 := (List.getElem?_eq_some_iff.1 hki).2
        exact hne ((List.getElem_inj hnd).1 (h3.trans h4.symm))
      subst this
      rfl
    · rw [if_neg e]
      refine ⟨fun j hj hji => ?_, fun hno => h2 fun j hj => hno j (by omega)⟩
      by_cases ej : j = k
      · subst ej
        rw [List.getElem?_eq_getElem hlt] at hji
        have := Option.some.inj hji
        omega
      · exact h1 j (by omega) hji
theorem halvesL_get (n : Int) : ∀ (ps : List Int) (p : Nat) (h : p < ps.length), (halvesL n ps)[2 * p]? = some ps[p] ∧ (halvesL n ps)[2 * p + 1]? = some (stepF n 0 ps[p] 1)
  | [], p, h => by simp at h
  | a :: r, 0, _ => by simp [halvesL]
  | a :: r, p + 1, h => by
    have ih := halvesL_get n r p (by simpa using h)
    have e : halvesL n (a :: r) = a :: stepF n 0 a 1 :: halvesL n r := by simp [halvesL]
    rw [e]
    exact ⟨by rw [show 2 * (p + 1) = 2 * p + 1 + 1 by omega, List.getElem?_cons_succ, List.getElem?_cons_succ]; exact ih.1, by rw [show 2 * (p + 1) + 1 = 2 * p + 1 + 1 + 1 by omega, List.getElem?_cons_succ, List.getElem?_cons_succ]; exact ih.2⟩
/-- A node's pair. -/
def pairF (c : Cfg) (i : Int) : Int := fromL c.pairs c.pairs i
section
variable {c : Cfg} (h : CfgOK c)
include h
theorem step_in (a : Int) (ha : 0 ≤ a) (hb : a < c.nodes) : stepF c.nodes 0 a 1 = (a + 1) % c.nodes := by
  have h4 := h.n4
  have h16 := h.n16
  unfold stepF
  rw [if_pos ⟨by simp [ringB]; omega, by simp [nodeB]; omega⟩, if_pos rfl]
theorem pairs_pos' : 0 < c.pairs.length := by
  have := h.n4
  rw [c.pairs_length]; omega
theorem pairF_get (i : Nat) (hi : (i : Int) < c.nodes) : c.pairs[i]? = some (pairF c i) := by
  have hl : i < c.pairs.length := by rw [c.pairs_length]; omega
  unfold pairF fromL
  rw [if_pos (pairs_pos' h)]
  unfold atL
  rw [if_pos (by omega), Int.toNat_natCast, List.getD_eq_getElem?_getD, List.getElem?_eq_getElem hl]
  rfl
theorem halves_ok : (∀ x ∈ halvesL c.nodes c.ps, 0 ≤ x ∧ x < ((c.nodes.toNat : Nat) : Int)) := by
  have h4 := h.n4
  intro x hx
  have := halves_in h4 h.n16 (decide_eq_true h.pin) x hx
  omega
theorem pair_of (p : Nat) (hp : p < c.ps.length) (i : Int) (hi : i = c.ps[p] ∨ i = (c.ps[p] + 1) % c.nodes) : pairF c i = p := by
  have h4 := h.n4
  have hb := h.pin c.ps[p] (List.getElem_mem _)
  have hir : 0 ≤ i ∧ i < c.nodes := by
    rcases hi with rfl | rfl
    · exact hb
    · exact ⟨Int.emod_nonneg _ (by omega), Int.emod_lt_of_pos _ (by omega)⟩
  obtain ⟨k, rfl⟩ : ∃ k : Nat, i = k := ⟨i.toNat, by omega⟩
  have hg := halvesL_get c.nodes c.ps p hp
  rw [step_in h _ hb.1 hb.2] at hg
  have key := pairsUp_get c.nodes.toNat (halvesL c.nodes c.ps) (halves_ok h) h.halves (2 * c.ps.length) (by rw [halvesL_length]; omega) k (by omega)
  have h1 := pairF_get h k hir.2
  rcases hi with hi | hi
  · have := key.1 (2 * p) (by omega) (by rw [hg.1, hi])
    rw [show pairsUp c.nodes.toNat (halvesL c.nodes c.ps) (2 * c.ps.length) = c.pairs from rfl, h1] at this
    have := Option.some.inj this
    omega
  · have := key.1 (2 * p + 1) (by omega) (by rw [hg.2, hi])
    rw [show pairsUp c.nodes.toNat (halvesL c.nodes c.ps) (2 * c.ps.length) = c.pairs from rfl, h1] at this
    have := Option.some.inj this
    omega
theorem pair_inv (i : Int) : (pairF c i = -1 ∧ ∀ p (hp : p < c.ps.length), i ≠ c.ps[p] ∧ i ≠ (c.ps[p] + 1) % c.nodes) ∨ ∃ p, ∃ hp : p < c.ps.length, pairF c i = (p : Nat) ∧ (i = c.ps[p] ∨ i = (c.ps[p] + 1) % c.nodes) := by
  have h4 := h.n4
  by_cases hir : 0 ≤ i ∧ i < c.nodes
  · obtain ⟨k, rfl⟩ : ∃ k : Nat, i = k := ⟨i.toNat, by omega⟩
    have key := pairsUp_get c.nodes.toNat (halvesL c.nodes c.ps) (halves_ok h) h.halves (2 * c.ps.length) (by rw [halvesL_length]; omega) k (by omega)
    by_cases he : ∃ j, j < 2 * c.ps.length ∧ (halvesL c.nodes c.ps)[j]? = some (k : Int)
    · right
      obtain ⟨j, hj, hjk⟩ := he
      have hp : j / 2 < c.ps.length := by omega
      have hb := h.pin c.ps[j / 2] (List.getElem_mem _)
      have hg := halvesL_get c.nodes c.ps (j / 2) hp
      rw [step_in h _ hb.1 hb.2] at hg
      have ho : (k : Int) = c.ps[j / 2] ∨ (k : Int) = (c.ps[j / 2] + 1) % c.nodes := by
        rcases Nat.mod_two_eq_zero_or_one j with hm | hm
        · left
          rw [show 2 * (j / 2) = j by omega, hjk] at hg
          exact Option.some.inj hg.1
        · right
          rw [show 2 * (j / 2) + 1 = j by omega, hjk] at hg
          exact Option.some.inj hg.2
      exact ⟨j / 2, hp, pair_of h _ hp _ ho, ho⟩
    · left
      have h1 := pairF_get h k hir.2
      have h2 := key.2 fun j hj hjk => he ⟨j, hj, hjk⟩
      rw [show pairsUp c.nodes.toNat (halvesL c.nodes c.ps) (2 * c.ps.length) = c.pairs from rfl, h1] at h2
      refine ⟨Option.some.inj h2, fun p hp => ?_⟩
      have hb := h.pin c.ps[p] (List.getElem_mem _)
      have hg := halvesL_get c.nodes c.ps p hp
      rw [step_in h _ hb.1 hb.2] at hg
      exact ⟨fun e => he ⟨2 * p, by omega, by rw [hg.1, e]⟩, fun e => he ⟨2 * p + 1, by omega, by rw [hg.2, e]⟩⟩
  · left
    refine ⟨?_, fun p hp => ?_⟩
    · unfold pairF fromL
      rw [if_pos (pairs_pos' h)]
      unfold atL
      have := c.pairs_length
      rw [if_neg (by omega)]
    · have hb := h.pin c.ps[p] (List.getElem_mem _)
      refine ⟨fun e => hir (by omega), fun e => hir ?_⟩
      rw [e]
      exact ⟨Int.emod_nonneg _ (by omega), Int.emod_lt_of_pos _ (by omega)⟩
theorem first_at (p : Nat) (hp : p < c.ps.length) : fromL c.pairs c.ps (p : Int) = c.ps[p] := by
  unfold fromL
  rw [if_pos (pairs_pos' h)]
  unfold atL
  rw [if_pos (by omega), Int.toNat_natCast, List.getD_eq_getElem?_getD, List.getElem?_eq_getElem hp]
  rfl
theorem first_none (i : Int) (hi : ¬ (0 ≤ i ∧ i < c.ps.length)) : fromL c.pairs c.ps i = -1 := by
  unfold fromL
  rw [if_pos (pairs_pos' h)]
  unfold atL
  rw [if_neg hi]
theorem next_ne (a : Int) (ha : 0 ≤ a) (hb : a < c.nodes) : (a + 1) % c.nodes ≠ a ∧ 0 ≤ (a + 1) % c.nodes ∧ (a + 1) % c.nodes < c.nodes := by
  have h4 := h.n4
  refine ⟨?_, Int.emod_nonneg _ (by omega), Int.emod_lt_of_pos _ (by omega)⟩
  by_cases e : a + 1 = c.nodes
  · rw [e, Int.emod_self]; omega
  · rw [Int.emod_eq_of_lt (by omega) (by omega)]; omega
/-- Of a half: the other one, and back. -/
theorem partner_of (p : Nat) (hp : p < c.ps.length) : partnerF c.pairs c c.ps[p] = (c.ps[p] + 1) % c.nodes ∧ partnerF c.pairs c ((c.ps[p] + 1) % c.nodes) = c.ps[p] := by
  have hb := h.pin c.ps[p] (List.getElem_mem _)
  have hn := next_ne h _ hb.1 hb.2
  have e1 : fromL c.pairs c.pairs c.ps[p] = p := pair_of h p hp _ (.inl rfl)
  have e2 : fromL c.pairs c.pairs ((c.ps[p] + 1) % c.nodes) = p := pair_of h p hp _ (.inr rfl)
  unfold partnerF
  rw [e1, e2, first_at h p hp]
  refine ⟨?_, ?_⟩
  · rw [if_neg (by omega), if_pos rfl, step_in h _ hb.1 hb.2]
  · rw [if_neg (by omega), if_neg (fun e => hn.1 e.symm)]
theorem partner_none (i : Int) (hi : pairF c i = -1) : partnerF c.pairs c i = -1 := by
  unfold partnerF
  rw [show fromL c.pairs c.pairs i = -1 from hi, first_none h _ (by omega), if_pos rfl]
/-- How many nodes below a number are a pair's. -/
theorem count_two (p : Nat) (hp : p < c.ps.length) (cnt : Nat → Nat) (h0 : cnt 0 = 0) (hs : ∀ i : Nat, (i : Int) < c.nodes → cnt (i + 1) = cnt i + if pairF c i = p then 1 else 0) : ∀ i : Nat, (i : Int) ≤ c.nodes →
    cnt i = (if c.ps[p] < i then 1 else 0) + (if (c.ps[p] + 1) % c.nodes < i then 1 else 0) := by
  have hb := h.pin c.ps[p] (List.getElem_mem _)
  have hn := next_ne h _ hb.1 hb.2
  intro i
  induction i with
  | zero =>
    intro _
    rw [h0, if_neg (by omega), if_neg (by omega)]
  | succ i ih =>
    intro hi
    rw [hs i (by omega), ih (by omega)]
    by_cases e : pairF c i = p
    · rw [if_pos e]
      rcases pair_inv h i with ⟨h1, _⟩ | ⟨q, hq, h1, h2⟩
      · omega
      · obtain rfl : q = p := by omega
        rcases h2 with h2 | h2
        · rw [if_neg (show ¬ c.ps[q] < (i : Int) by omega), if_pos (show c.ps[q] < ((i + 1 : Nat) : Int) by omega)]
          by_cases e3 : (c.ps[q] + 1) % c.nodes < (i : Int)
          · rw [if_pos e3, if_pos (by omega)]
          · rw [if_neg e3, if_neg (by omega)]
        · rw [if_neg (show ¬ (c.ps[q] + 1) % c.nodes < (i : Int) by omega), if_pos (show (c.ps[q] + 1) % c.nodes < ((i + 1 : Nat) : Int) by omega)]
          by_cases e3 : c.ps[q] < (i : Int)
          · rw [if_pos e3, if_pos (by omega)]
          · rw [if_neg e3, if_neg (by omega)]
    · rw [if_neg e]
      have n1 : c.ps[p] ≠ (i : Int) := fun e1 => e (pair_of h p hp _ (.inl e1.symm))
      have n2 : (c.ps[p] + 1) % c.nodes ≠ (i : Int) := fun e1 => e (pair_of h p hp _ (.inr e1.symm))
      repeat' split
      all_goals omega
end
end Go.Proofs.YtibncdkekceokaaDoor
