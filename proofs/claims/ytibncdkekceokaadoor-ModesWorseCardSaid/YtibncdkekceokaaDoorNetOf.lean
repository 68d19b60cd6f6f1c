/- What a net that New made reads as; the plain example. -/
import Derived.Test.YtibncdkekceokaaDoorNewB
import Derived.Test.YtibncdkekceokaaDoorNet
namespace Go.Proofs.YtibncdkekceokaaDoor
open Go.RowKit

theorem firstE_all : ∀ l : List Int, firstE l = 0 → ∀ x ∈ l, x = 0
  | [], _, x, hx => by cases hx
  | y :: r, h, x, hx => by
    unfold firstE at h
    by_cases e : y = 0
    · rw [if_pos e] at h
      rcases List.mem_cons.1 hx with rfl | hx
      · exact e
      · exact firstE_all r h x hx
    · rw [if_neg e] at h
      exact absurd h e
theorem Cfg.rules_ok {c : Cfg} (h : c.err = 0) (k : Nat) (hk : k < 10) : c.rule k = 0 :=
  firstE_all _ h _ (List.mem_map.2 ⟨k, List.mem_range.2 hk, rfl⟩)
theorem eachE_all {lo hi : Int} : ∀ l : List Int, eachE l lo hi = 0 → ∀ x ∈ l, lo ≤ x ∧ x ≤ hi
  | [], _, x, hx => by cases hx
  | y :: r, h, x, hx => by
    unfold eachE at h
    by_cases e : withinE y lo hi = 0
    · rw [if_pos e] at h
      rcases List.mem_cons.1 hx with rfl | hx
      · exact within_ok e
      · exact eachE_all r h x hx
    · rw [if_neg e] at h
      exact absurd h e
/-- What stands in a config that may be. -/
structure CfgOK (c : Cfg) : Prop where
  n4 : 4 ≤ c.nodes
  n16 : c.nodes ≤ 16
  p2 : 2 ≤ c.ps.length
  p8 : c.ps.length ≤ 8
  pin : ∀ x ∈ c.ps, 0 ≤ x ∧ x < c.nodes
  psort : c.ps.Pairwise (· ≤ ·)
  halves : (halvesL c.nodes c.ps).Nodup
  s1 : 1 ≤ c.ss.length
  s16 : c.ss.length ≤ 16
  sin : ∀ x ∈ c.ss, 0 ≤ x ∧ x < c.ps.length
  sall : ∀ p : Nat, p < c.ps.length → (p : Int) ∈ c.ss
  l1 : max (3 * c.nodes + 1) (c.nodes + 116) ≤ c.long
  l2 : c.long ≤ 4096
  bl : (c.bs.length : Int) = c.nodes
  bin : ∀ x ∈ c.bs, 0 ≤ x ∧ x ≤ 4096
  t8 : c.ts.length ≤ 8
  m1 : 1 ≤ c.miss ∧ c.miss ≤ 100
  g1 : 1 ≤ c.good ∧ c.good ≤ 100
  f1 : 1 ≤ c.fresh ∧ c.fresh ≤ 100
theorem Cfg.ok {c : Cfg} (h : c.err = 0) : CfgOK c := by
  have r0 := within_ok (c.rules_ok h 0 (by omega))
  have r1 := within_ok (c.rules_ok h 1 (by omega))
  have r2 := must_ok (c.rules_ok h 2 (by omega))
  have r3 := within_ok (c.rules_ok h 3 (by omega))
  have r4 := must_ok (c.rules_ok h 4 (by omega))
  have r5 := within_ok (c.rules_ok h 5 (by omega))
  have r6 := firstE_all _ (c.rules_ok h 6 (by omega))
  have r7 := within_ok (c.rules_ok h 7 (by omega))
  have r9 := eachE_all _ (c.rules_ok h 9 (by omega))
  have b1 := must_ok (r6 (mustE ((c.bs.length : Int) == c.nodes)) (by simp))
  have b2 := eachE_all _ (r6 (eachE c.bs 0 4096) (by simp))
  simp only [rule3B, Bool.and_eq_true] at r2
  simp only [slotsB, Bool.and_eq_true] at r4
  exact ⟨r0.1, r0.2, by omega, by omega, of_decide_eq_true r2.1.1, of_decide_eq_true r2.1.2, of_decide_eq_true r2.2, by omega, by omega, of_decide_eq_true r4.1, of_decide_eq_true r4.2, r5.1, r5.2, by simpa using b1, b2, by omega, r9 _ (by simp), r9 _ (by simp), r9 _ (by simp)⟩

theorem OwnV.reads {w : World} {lo n : Nat} {v : Value} {xs : List Int} (h : OwnV w lo 3 1 v n (xs.map eI)) (hn : xs.length = n) (hs : n ≤ 9223372036854775807) : ∃ a, v = .slice a n n ∧ SliceOK a n n ∧ Reads w eI a n xs := by
  obtain ⟨a, rfl, hok⟩ := h.value
  refine ⟨a, rfl, hok, hn, hs, fun i hi => ?_⟩
  rcases h with ⟨hv, h0, _⟩ | ⟨g, cur, hv, _, hg, _, h2, h3⟩
  · omega
  · simp only [Value.slice.injEq, and_true] at hv
    subst hv
    refine ⟨g, 0, rfl, ?_⟩
    rw [heap_cell hg, Nat.zero_add, ← Array.getElem?_toList]
    have e : (cur.toList.take (n * 1))[i]? = some (eI (xs[i]'(by omega))) := by rw [h3]; simp [hn, hi]
    rw [List.getElem?_take, if_pos (by omega)] at e
    exact e
theorem OwnV.readsSt {w : World} {lo n : Nat} {v : Value} {xs : List (Int × Int × Int)} (h : OwnV w lo 53 3 v n (xs.flatMap eSt)) (hn : xs.length = n) (hs : n ≤ 9223372036854775807) : ∃ a, v = .slice a n n ∧ SliceOK a n n ∧ ReadsSt w a n xs := by
  obtain ⟨a, rfl, hok⟩ := h.value
  refine ⟨a, rfl, hok, hn, hs, fun i hi => ?_⟩
  rcases h with ⟨hv, h0, _⟩ | ⟨g, cur, hv, _, hg, _, h2, h3⟩
  · omega
  · simp only [Value.slice.injEq, and_true] at hv
    subst hv
    have key : ∀ k, k < 3 → w.cell? ⟨g, 0 + i * 3 + k, none⟩ = (eSt (xs[i]'(by omega)))[k]? := fun k hk => by
      rw [heap_cell hg, Nat.zero_add, ← Array.getElem?_toList]
      have e : (cur.toList.take (n * 3))[i * 3 + k]? = (xs.flatMap eSt)[i * 3 + k]? := by rw [h3]
      rw [List.getElem?_take, if_pos (by omega), flat3_get] at e
      rw [e, show (i * 3 + k) / 3 = i by omega, show (i * 3 + k) % 3 = k by omega, List.getElem?_eq_getElem (by omega)]
      rfl
    exact ⟨g, 0, rfl, key 0 (by omega), key 1 (by omega), key 2 (by omega)⟩
theorem Cfg.pairs_length (c : Cfg) : c.pairs.length = c.nodes.toNat := by unfold Cfg.pairs; exact pairsUp_length _ _ _
/-- What New made reads as the net of its config. -/
theorem NetAt.view {w : World} {lo hi b : Nat} {c : Cfg} (h : NetAt w lo hi b c) (hc : CfgOK c) : ∃ pa sa ba ta qa, NetV w b c c.pairs pa sa ba ta qa := by
  obtain ⟨pv, sv, bv, tv, qv, hb, _, _, _, hp, hs, hbb, ht, hq⟩ := h
  have n16 := hc.n16
  have n4 := hc.n4
  have p8 := hc.p8
  have s16 := hc.s16
  have t8 := hc.t8
  have bl := hc.bl
  obtain ⟨pa, rfl, op, rp⟩ := hp.1.reads rfl (by omega)
  obtain ⟨sa, rfl, os, rs⟩ := hs.1.reads rfl (by omega)
  obtain ⟨ba, rfl, ob, rb⟩ := hbb.1.reads rfl (by omega)
  obtain ⟨ta, rfl, ot, rt⟩ := ht.1.readsSt rfl (by omega)
  have hl := c.pairs_length
  rw [← hl] at hq
  obtain ⟨qa, rfl, _, rq⟩ := hq.1.reads rfl (by omega)
  exact ⟨pa, sa, ba, ta, qa, heap_cell hb 0, heap_cell hb 1, heap_cell hb 2, heap_cell hb 3, heap_cell hb 4, heap_cell hb 5, heap_cell hb 6, heap_cell hb 7, heap_cell hb 8, heap_cell hb 9, rp, rs, rb, rt, rq, op, os, ob, ot⟩
theorem NetAt.ptr {w : World} {lo hi b : Nat} {c : Cfg} (h : NetAt w lo hi b c) (hc : CfgOK c) : NetP w (some ⟨b, 0, none⟩) c c.pairs := by
  obtain ⟨pa, sa, ba, ta, qa, hv⟩ := h.view hc
  exact .inr ⟨b, pa, sa, ba, ta, qa, rfl, hv⟩

/-- The chapters' example. -/
def plainC : Cfg := ⟨4, 120, 3, 3, 3, [0, 2], [0, 1], [0, 0, 0, 0], []⟩
theorem plainC_err : plainC.err = 0 := by decide +kernel
end Go.Proofs.YtibncdkekceokaaDoor
