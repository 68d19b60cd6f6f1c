/- A config with its pairs turned round the ring may be just if it might: the plain law behind sennitlaw04.ConfigsTurned. -/
import Derived.Test.YtibncdkekceokaaDoorCoreC
namespace Go.Proofs.YtibncdkekceokaaDoor
open Go.RowKit

def rotF (n st a : Int) : Int := if n ≤ a + st then a + st - n else a + st
def lowF (n st : Int) (ps : List Int) : List Int := (ps.filter fun a => decide (n ≤ a + st)).map fun a => a + st - n
def highF (n st : Int) (ps : List Int) : List Int := (ps.filter fun a => !decide (n ≤ a + st)).map fun a => a + st
def lowO (n st : Int) (ps : List Int) (i : Nat) : List Int := ((List.range i).filter fun j => decide (n ≤ ps.getD j 0 + st)).map fun (j : Nat) => (j : Int)
def highO (n st : Int) (ps : List Int) (i : Nat) : List Int := ((List.range i).filter fun j => !decide (n ≤ ps.getD j 0 + st)).map fun (j : Nat) => (j : Int)
def orderF (n st : Int) (ps : List Int) : List Int := lowO n st ps ps.length ++ highO n st ps ps.length
/-- Where a number stands among the first k (the last place; -1: nowhere). -/
def nowN (order : List Int) (s : Int) : Nat → Int
  | 0 => -1
  | k + 1 => if order.getD k 0 = s then k else nowN order s k
def nowF (order : List Int) (s : Int) : Int := nowN order s order.length

theorem nowN_none {order : List Int} {s : Int} : ∀ k, k ≤ order.length → (∀ j (h : j < order.length), j < k → order[j] ≠ s) → nowN order s k = -1 := by
  intro k
  induction k with
  | zero => intro _ _; rfl
  | succ k ih =>
    intro hk h
    simp only [nowN]
    rw [if_neg, ih (by omega) (fun j hj hl => h j hj (by omega))]
    rw [List.getD_eq_getElem?_getD, List.getElem?_eq_getElem (by omega)]
    exact h k (by omega) (by omega)
theorem nowN_hit {order : List Int} (hn : order.Nodup) (p : Nat) (hp : p < order.length) : ∀ k, p < k → k ≤ order.length → nowN order order[p] k = p := by
  intro k
  induction k with
  | zero => intro h; omega
  | succ k ih =>
    intro hk hl
    simp only [nowN]
    have hg : order.getD k 0 = order[k]'(by omega) := by rw [List.getD_eq_getElem?_getD, List.getElem?_eq_getElem (by omega)]; rfl
    rw [hg]
    by_cases e : p = k
    · subst e
      rw [if_pos rfl]
    · rw [if_neg (fun h => e ((List.getElem_inj hn).1 h.symm))]
      exact ih (by omega) (by omega)

/-- The order's facts. -/
structure Ord (order : List Int) (m : Nat) : Prop where
  len : order.length = m
  nodup : order.Nodup
  mem : ∀ x, x ∈ order ↔ 0 ≤ x ∧ x < m
theorem order_ok (n st : Int) (ps : List Int) : Ord (orderF n st ps) ps.length := by
  have hp : (orderF n st ps).Perm ((List.range ps.length).map fun (j : Nat) => (j : Int)) := by
    unfold orderF lowO highO
    rw [← List.map_append]
    exact (List.filter_append_perm _ _).map _
  refine ⟨by rw [hp.length_eq]; simp, hp.nodup_iff.2 ?_, fun x => (hp.mem_iff).trans ?_⟩
  · rw [List.nodup_iff_pairwise_ne, List.pairwise_map]
    exact List.Pairwise.imp (fun h e => h (by omega)) List.nodup_range
  · constructor
    · intro h
      obtain ⟨j, hj, rfl⟩ := List.mem_map.1 h
      have := List.mem_range.1 hj
      omega
    · intro h
      exact List.mem_map.2 ⟨x.toNat, List.mem_range.2 (by omega), by omega⟩
theorem now_hit {order : List Int} {m : Nat} (h : Ord order m) (p : Nat) (hp : p < order.length) : nowF order order[p] = p := nowN_hit h.nodup p hp _ hp (Nat.le_refl _)
theorem now_in {order : List Int} {m : Nat} (h : Ord order m) (s : Int) (hs : 0 ≤ s ∧ s < m) : ∃ p, ∃ hp : p < order.length, order[p] = s ∧ nowF order s = p := by
  obtain ⟨p, hp, e⟩ := List.mem_iff_getElem.1 ((h.mem s).2 hs)
  exact ⟨p, hp, e, by rw [← e]; exact now_hit h p hp⟩
theorem now_out {order : List Int} {m : Nat} (h : Ord order m) (s : Int) (hs : ¬ (0 ≤ s ∧ s < m)) : nowF order s = -1 :=
  nowN_none _ (Nat.le_refl _) fun j hj _ e => hs ((h.mem s).1 (by rw [← e]; exact List.getElem_mem _))
theorem slots_turned {order : List Int} {m : Nat} (h : Ord order m) (ss : List Int) : slotsB (ss.map (nowF order)) m = slotsB ss m := by
  unfold slotsB insideB
  rw [Bool.eq_iff_iff, Bool.and_eq_true, Bool.and_eq_true, decide_eq_true_iff, decide_eq_true_iff, decide_eq_true_iff, decide_eq_true_iff]
  constructor
  · rintro ⟨h1, h2⟩
    refine ⟨fun x hx => ?_, fun q hq => ?_⟩
    · apply Classical.byContradiction
      intro hn
      have := h1 _ (List.mem_map_of_mem hx)
      rw [now_out h x hn] at this
      omega
    · obtain ⟨p, hp, e, hnw⟩ := now_in h (q : Int) (by omega)
      obtain ⟨s, hs, es⟩ := List.mem_map.1 (h2 p (by rw [← h.len]; exact hp))
      have hin : 0 ≤ s ∧ s < m := by
        apply Classical.byContradiction
        intro hn
        rw [now_out h s hn] at es
        omega
      obtain ⟨p', hp', e', hnw'⟩ := now_in h s hin
      have : p' = p := by omega
      subst this
      rw [← e, e']
      exact hs
  · rintro ⟨h1, h2⟩
    refine ⟨fun x hx => ?_, fun p hp => ?_⟩
    · obtain ⟨s, hs, rfl⟩ := List.mem_map.1 hx
      obtain ⟨p', hp', _, hnw'⟩ := now_in h s (h1 s hs)
      rw [hnw']
      have := h.len
      omega
    · have hpl : p < order.length := by rw [h.len]; exact hp
      have hin := (h.mem order[p]).1 (List.getElem_mem _)
      have := h2 (order[p]).toNat (by omega)
      rw [Int.toNat_of_nonneg hin.1] at this
      exact List.mem_map.2 ⟨order[p], this, now_hit h p hpl⟩

/-- The pairs, turned. -/
def turnF (n st : Int) (ps : List Int) : List Int := lowF n st ps ++ highF n st ps
theorem turn_perm (n st : Int) (ps : List Int) : (turnF n st ps).Perm (ps.map (rotF n st)) := by
  have h1 : lowF n st ps = (ps.filter fun a => decide (n ≤ a + st)).map (rotF n st) := List.map_congr_left fun a ha => by
    have := of_decide_eq_true (List.mem_filter.1 ha).2
    exact (if_pos this).symm
  have h2 : highF n st ps = (ps.filter fun a => !decide (n ≤ a + st)).map (rotF n st) := List.map_congr_left fun a ha => by
    have := (List.mem_filter.1 ha).2
    simp only [Bool.not_eq_true', decide_eq_false_iff_not] at this
    exact (if_neg this).symm
  unfold turnF
  rw [h1, h2, ← List.map_append]
  exact (List.filter_append_perm _ _).map _
theorem rot_in {n st a : Int} (h0 : 0 ≤ st) (h1 : st < n) (ha : 0 ≤ a ∧ a < n) : 0 ≤ rotF n st a ∧ rotF n st a < n := by
  unfold rotF; split <;> omega
theorem step_in {n a : Int} (h4 : 4 ≤ n) (h16 : n ≤ 16) (ha : 0 ≤ a ∧ a < n) : stepF n 0 a 1 = if a + 1 = n then 0 else a + 1 := by
  unfold stepF
  rw [if_pos ⟨by simp [ringB]; omega, by simp [nodeB]; omega⟩, if_pos rfl]
  split
  · rename_i e
    rw [e, Int.emod_self]
  · exact Int.emod_eq_of_lt (by omega) (by omega)
theorem rot_step {n st a : Int} (h4 : 4 ≤ n) (h16 : n ≤ 16) (h0 : 0 ≤ st) (h1 : st < n) (ha : 0 ≤ a ∧ a < n) : stepF n 0 (rotF n st a) 1 = rotF n st (stepF n 0 a 1) := by
  rw [step_in h4 h16 (rot_in h0 h1 ha), step_in h4 h16 ha]
  unfold rotF
  repeat' split
  all_goals omega
theorem halves_turned {n st : Int} (h4 : 4 ≤ n) (h16 : n ≤ 16) (h0 : 0 ≤ st) (h1 : st < n) (ps : List Int) (hp : ∀ x ∈ ps, 0 ≤ x ∧ x < n) : singleB (halvesL n (turnF n st ps)) = singleB (halvesL n ps) := by
  have e1 : (halvesL n (turnF n st ps)).Perm ((halvesL n ps).map (rotF n st)) := by
    refine ((turn_perm n st ps).flatMap_right _).trans ?_
    unfold halvesL
    rw [List.flatMap_map, List.map_flatMap]
    have : (ps.flatMap fun a => [rotF n st a, stepF n 0 (rotF n st a) 1]) = ps.flatMap fun a => List.map (rotF n st) [a, stepF n 0 a 1] := by
      rw [List.flatMap_def, List.flatMap_def]
      congr 1
      apply List.map_congr_left
      intro a ha
      rw [rot_step h4 h16 h0 h1 (hp a ha)]
      rfl
    rw [this]
  have hin : ∀ x ∈ halvesL n ps, 0 ≤ x ∧ x < n := fun x hx => by
    obtain ⟨a, ha, hxa⟩ := List.mem_flatMap.1 hx
    have := hp a ha
    rcases List.mem_cons.1 hxa with rfl | h
    · exact this
    · rw [List.mem_singleton.1 h, step_in h4 h16 this]
      split <;> omega
  unfold singleB
  rw [Bool.eq_iff_iff, decide_eq_true_iff, decide_eq_true_iff, e1.nodup_iff, List.nodup_iff_pairwise_ne, List.nodup_iff_pairwise_ne, List.pairwise_map]
  constructor
  · exact List.Pairwise.imp fun h e => h (by rw [e])
  · intro h
    refine List.Pairwise.imp_of_mem (fun {a b} ha hb hne e => ?_) h
    have i1 := hin a ha
    have i2 := hin b hb
    unfold rotF at e
    revert e
    split <;> split <;> intro e <;> omega
theorem turned_in {n st : Int} (h0 : 0 ≤ st) (h1 : st < n) (ps : List Int) (hp : ∀ x ∈ ps, 0 ≤ x ∧ x < n) : ∀ x ∈ turnF n st ps, 0 ≤ x ∧ x < n := fun x hx => by
  obtain ⟨a, ha, rfl⟩ := List.mem_map.1 ((turn_perm n st ps).mem_iff.1 hx)
  exact rot_in h0 h1 (hp a ha)
theorem turned_sorted {n st : Int} (ps : List Int) (hp : ∀ x ∈ ps, 0 ≤ x ∧ x < n) (hs : ps.Pairwise (· < ·)) : (turnF n st ps).Pairwise (· ≤ ·) := by
  unfold turnF lowF highF
  rw [List.pairwise_append, List.pairwise_map, List.pairwise_map]
  refine ⟨(hs.filter _).imp fun h => by omega, (hs.filter _).imp fun h => by omega, fun a ha b hb => ?_⟩
  obtain ⟨x, hx, rfl⟩ := List.mem_map.1 ha
  obtain ⟨y, hy, rfl⟩ := List.mem_map.1 hb
  have := hp x (List.mem_filter.1 hx).1
  have := hp y (List.mem_filter.1 hy).1
  omega
theorem rule3_turned {n st : Int} (h4 : 4 ≤ n) (h16 : n ≤ 16) (h0 : 0 ≤ st) (h1 : st < n) (ps : List Int) (hp : ∀ x ∈ ps, 0 ≤ x ∧ x < n) (hs : ps.Pairwise (· < ·)) : rule3B n (turnF n st ps) = rule3B n ps := by
  unfold rule3B insideB sortedB
  rw [decide_eq_true (turned_in h0 h1 ps hp), decide_eq_true (turned_sorted (n := n) (st := st) ps hp hs), decide_eq_true hp, decide_eq_true (hs.imp fun h => Int.le_of_lt h), halves_turned h4 h16 h0 h1 ps hp]
/-- The turned config may be just if the config may. -/
theorem turned_err (c : Cfg) (st : Int) (h4 : 4 ≤ c.nodes) (h16 : c.nodes ≤ 16) (h0 : 0 ≤ st) (h1 : st < c.nodes) (hp : ∀ x ∈ c.ps, 0 ≤ x ∧ x < c.nodes) (hs : c.ps.Pairwise (· < ·)) :
    (Cfg.mk c.nodes c.long c.miss c.good c.fresh (turnF c.nodes st c.ps) (c.ss.map (nowF (orderF c.nodes st c.ps))) c.bs c.ts).err = c.err := by
  unfold Cfg.err
  congr 1
  apply List.map_congr_left
  intro i hi
  have hi := List.mem_range.1 hi
  have hl : (turnF c.nodes st c.ps).length = c.ps.length := by rw [(turn_perm _ _ _).length_eq]; simp
  match i, hi with
  | 0, _ => rfl
  | 1, _ => simp only [Cfg.rule]; rw [hl]
  | 2, _ => simp only [Cfg.rule]; rw [rule3_turned h4 h16 h0 h1 c.ps hp hs]
  | 3, _ => simp only [Cfg.rule]; rw [List.length_map]
  | 4, _ => simp only [Cfg.rule]; rw [hl, slots_turned (order_ok _ _ _)]
  | 5, _ => rfl
  | 6, _ => rfl
  | 7, _ => rfl
  | 8, _ => rfl
  | 9, _ => rfl
end Go.Proofs.YtibncdkekceokaaDoor
