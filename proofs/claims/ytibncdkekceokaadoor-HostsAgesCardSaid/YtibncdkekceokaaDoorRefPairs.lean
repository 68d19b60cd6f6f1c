/- sennitref04.pairs: the reference finds just those pairs well that the rules do. -/
import Derived.Test.YtibncdkekceokaaDoorPConfigsNewx2
import Derived.Test.YtibncdkekceokaaDoorCoreB
namespace Go.Proofs.YtibncdkekceokaaDoor
open Go.RowKit Go.Proofs.YtibncdkekceokaaDoorW.PrintWords Go.Proofs.YtibncdkekceokaaDoor.PConfigsNew

/-- A slice of ints, as the printed contracts ask for it. -/
theorem Reads.kd {w : World} {a : Option Addr} {n : Nat} {xs : List Int} (h : Reads w eI a n xs) : Kd.C (Kd.int .i64) w a xs.length xs := by
  have hl := h.len
  subst hl
  refine ⟨rfl, h.small, fun h0 => ?_⟩
  obtain ⟨b, off, ha, hc⟩ := h.base h0
  refine ⟨_, ha, fun j p hj => ⟨[.int .i64 p], rfl, rfl, fun i u hu => ?_⟩⟩
  obtain ⟨hj1, rfl⟩ := List.getElem?_eq_some_iff.1 hj
  have hi : i = 0 := by
    rcases i with _ | i
    · rfl
    · simp at hu
  subst hi
  have hc1 := hc j hj1
  simp only [List.getElem?_cons_zero, Option.some.injEq] at hu
  subst hu
  have e : (⟨b, off, none⟩ : Addr).add (j * (Kd.int .i64).sz + 0) = ⟨b, off + j, none⟩ := by
    have : (Kd.int .i64).sz = 1 := rfl
    rw [this]
    unfold Addr.add
    split <;> simp_all
  rw [e]
  exact hc1
def toS (s : Int × Int × Int) : S53 := ⟨s.1, s.2.1, s.2.2⟩
theorem ReadsSt.kd {w : World} {a : Option Addr} {n : Nat} {xs : List (Int × Int × Int)} (h : ReadsSt w a n xs) : Kd.C k53 w a (xs.map toS).length (xs.map toS) := by
  have hl := h.len
  subst hl
  refine ⟨rfl, by simpa using h.small, fun h0 => ?_⟩
  rw [List.length_map] at h0
  obtain ⟨b, off, ha, _⟩ := h.cells 0 h0
  refine ⟨_, ha, fun j p hj => ?_⟩
  rw [List.getElem?_map] at hj
  have hj1 : j < xs.length := by
    apply Classical.byContradiction
    intro hn
    rw [List.getElem?_eq_none (by omega)] at hj
    cases hj
  rw [List.getElem?_eq_getElem hj1] at hj
  obtain rfl : toS xs[j] = p := by simpa using hj
  refine ⟨_, rfl, k53_mk w _, fun i u hu => ?_⟩
  obtain ⟨b', off', ha', c0, c1, c2⟩ := h.cells j hj1
  rw [ha] at ha'
  injection ha' with ha'
  injection ha' with e1 e2
  subst e1 e2
  have e : ∀ i, (⟨b, off, none⟩ : Addr).add (j * k53.sz + i) = ⟨b, off + j * 3 + i, none⟩ := fun i => by
    have : k53.sz = 3 := rfl
    rw [this]
    unfold Addr.add
    split
    · simp_all
    · simp [Nat.add_assoc]
  rw [e]
  rcases i with _ | _ | _ | i
  · simp only [List.getElem?_cons_zero, Option.some.injEq] at hu
    subst hu; exact c0
  · simp only [List.getElem?_cons_succ, List.getElem?_cons_zero, Option.some.injEq] at hu
    subst hu; exact c1
  · simp only [List.getElem?_cons_succ, List.getElem?_cons_zero, Option.some.injEq] at hu
    subst hu; exact c2
  · simp at hu

theorem wrap_up (i : Nat) (h : i ≤ 281474976710656) : wrap64 ((i : Int) + 1) = ((i + 1 : Nat) : Int) := by unfold wrap64; omega
theorem refWithin (x lo hi : Int) : sennitref04_Within.f x lo hi = some (withinE x lo hi) := by
  unfold sennitref04_Within.f withinE
  by_cases h1 : hi < x
  · rw [if_pos h1, if_pos h1]
  · rw [if_neg h1, if_neg h1]
    by_cases h2 : x < lo
    · rw [if_pos h2, if_pos h2]
    · rw [if_neg h2, if_neg h2]
theorem rd_at (xs : List Int) (i : Nat) (h : i < xs.length) : rd xs (i : Int) = xs[i] := by
  unfold rd
  rw [Int.toNat_natCast, List.getD_eq_getElem?_getD, List.getElem?_eq_getElem h]
  rfl

/-! pairs -/
theorem halves_in_iff {n : Int} (h4 : 4 ≤ n) (h16 : n ≤ 16) (a : Int) (h0 : 0 ≤ a) (h1 : a < n) : stepF n 0 a 1 = (a + 1) % n := by
  unfold stepF
  rw [if_pos ⟨by simp [ringB]; omega, by simp [nodeB]; omega⟩, if_pos rfl]
/-- All is well with the pairs up to a place. -/
structure PairsTo (n : Int) (ps : List Int) (i : Nat) (used : List Bool) : Prop where
  len : used.length = 16
  us : ∀ p : Nat, p < 16 → used.getD p false = decide ((p : Int) ∈ halvesL n (ps.take i))
  ins : ∀ x ∈ ps.take i, 0 ≤ x ∧ x < n
  up : ∀ j (h : j + 1 < i) (h' : i ≤ ps.length), ps[j]'(by omega) < ps[j + 1]'(by omega)
  nod : (halvesL n (ps.take i)).Nodup
theorem rule3B_iff (n : Int) (ps : List Int) : rule3B n ps = true ↔ (∀ x ∈ ps, 0 ≤ x ∧ x < n) ∧ ps.Pairwise (· ≤ ·) ∧ (halvesL n ps).Nodup := by
  unfold rule3B insideB sortedB singleB
  simp only [Bool.and_eq_true, decide_eq_true_eq, and_assoc]
theorem rule3B_no {n : Int} {ps : List Int} (h : ¬ ((∀ x ∈ ps, 0 ≤ x ∧ x < n) ∧ ps.Pairwise (· ≤ ·) ∧ (halvesL n ps).Nodup)) : rule3B n ps = false := by
  cases e : rule3B n ps with
  | false => rfl
  | true => exact absurd ((rule3B_iff n ps).1 e) h
theorem halvesL_take (n : Int) (ps : List Int) (i : Nat) (h : i < ps.length) : halvesL n (ps.take (i + 1)) = halvesL n (ps.take i) ++ [ps[i], stepF n 0 ps[i] 1] := by
  rw [List.take_succ_eq_append_getElem h, halvesL_snoc]
theorem halvesL_prefix (n : Int) (ps : List Int) (i : Nat) (h : (halvesL n ps).Nodup) : (halvesL n (ps.take i)).Nodup := by
  have e : halvesL n ps = halvesL n (ps.take i) ++ halvesL n (ps.drop i) := by
    unfold halvesL
    rw [← List.flatMap_append, List.take_append_drop]
  rw [e] at h
  exact (List.nodup_append.1 h).1
theorem mem_halves_take {n : Int} {ps : List Int} {i : Nat} {x : Int} (h : x ∈ halvesL n (ps.take i)) : x ∈ halvesL n ps := by
  unfold halvesL at h ⊢
  rw [List.mem_flatMap] at h ⊢
  obtain ⟨a, ha, hx⟩ := h
  exact ⟨a, List.mem_of_mem_take ha, hx⟩
section
variable (n a3 a6 a7 a8 : Int) (ps ss bs : List Int) (ts : List S53)
theorem pairs_l0 (h4 : 4 ≤ n) (h16 : n ≤ 16) (hl : ps.length ≤ 1000000) : ∀ d k (i : Nat) (used : List Bool), ps.length - i = d → i ≤ ps.length → PairsTo n ps i used → 2 * d + 1 ≤ k → sennitref04_pairs.l0 k used (i : Int) n ps ss a3 bs ts a6 a7 a8 = some (rule3B n ps) := by
  intro d
  induction d with
  | zero =>
    intro k i used h1 h2 h3 h6
    obtain ⟨k, rfl⟩ : ∃ m, k = m + 1 := ⟨k - 1, by omega⟩
    simp only [sennitref04_pairs.l0]
    rw [if_neg (by omega)]
    have e : i = ps.length := by omega
    subst e
    have ht := List.take_length (l := ps)
    have hi := h3.ins
    have hn := h3.nod
    rw [ht] at hi hn
    rw [(rule3B_iff n ps).2 ⟨hi, pairwise_of_adj ps fun j h => by have := h3.up j h (Nat.le_refl _); omega, hn⟩]
  | succ d ih =>
    intro k i used h1 h2 h3 h6
    obtain ⟨k, rfl⟩ : ∃ m, k = m + 2 := ⟨k - 2, by omega⟩
    have hlt : i < ps.length := by omega
    have hx : ps[i] ∈ ps := List.getElem_mem _
    have hT : ∀ x30, sennitref04_pairs.j1 (k + 1) used (i : Int) x30 true n ps ss a3 bs ts a6 a7 a8 = some false := fun x30 => by
      simp only [sennitref04_pairs.j1, if_true]
    simp only [sennitref04_pairs.l0]
    rw [if_pos (by omega), if_pos (by omega), rd_at ps i hlt]
    by_cases c1 : ps[i] < 0
    · rw [if_pos c1, hT, rule3B_no]
      rintro ⟨h, _⟩
      have := h _ hx
      omega
    rw [if_neg c1]
    by_cases c2 : ps[i] ≥ n
    · rw [if_pos c2, hT, rule3B_no]
      rintro ⟨h, _⟩
      have := h _ hx
      omega
    rw [if_neg c2]
    have hst := halves_in_iff h4 h16 ps[i] (by omega) (by omega)
    have hF : ¬ (0 < i ∧ ps[i] ≤ ps[i - 1]'(by omega)) → sennitref04_pairs.j1 (k + 1) used (i : Int) ps[i] false n ps ss a3 bs ts a6 a7 a8 = some (rule3B n ps) := by
      intro hup
      have hm : Int.tmod (wrap64 (ps[i] + 1)) n = (ps[i] + 1) % n := by
        rw [show wrap64 (ps[i] + 1) = ps[i] + 1 by unfold wrap64; omega, Int.tmod_eq_emod_of_nonneg (by omega)]
      have hm0 := Int.emod_nonneg (ps[i] + 1) (show n ≠ 0 by omega)
      have hm1 := Int.emod_lt_of_pos (ps[i] + 1) (show 0 < n by omega)
      have hl16 := h3.len
      simp only [sennitref04_pairs.j1]
      rw [if_neg (by simp), if_neg (by omega), if_pos (by omega), if_pos (by omega), hm]
      have r1 : rdOf false used ps[i] = decide (ps[i] ∈ halvesL n (ps.take i)) := by
        have := h3.us ps[i].toNat (by omega)
        rw [Int.toNat_of_nonneg (by omega)] at this
        exact this
      have r2 : rdOf false used ((ps[i] + 1) % n) = decide ((ps[i] + 1) % n ∈ halvesL n (ps.take i)) := by
        have := h3.us ((ps[i] + 1) % n).toNat (by omega)
        rw [Int.toNat_of_nonneg (by omega)] at this
        exact this
      have hh := halvesL_take n ps i hlt
      rw [hst] at hh
      rw [r1, r2]
      by_cases u1 : ps[i] ∈ halvesL n (ps.take i)
      · rw [if_pos (decide_eq_true u1), rule3B_no]
        rintro ⟨_, _, hn⟩
        have hn1 := halvesL_prefix n ps (i + 1) hn
        rw [hh] at hn1
        exact (List.nodup_append.1 hn1).2.2 _ u1 _ (List.mem_cons_self) rfl
      rw [if_neg (by simpa using u1), if_pos (by omega), if_pos (by omega)]
      by_cases u2 : (ps[i] + 1) % n ∈ halvesL n (ps.take i)
      · rw [if_pos (decide_eq_true u2), rule3B_no]
        rintro ⟨_, _, hn⟩
        have hn1 := halvesL_prefix n ps (i + 1) hn
        rw [hh] at hn1
        exact (List.nodup_append.1 hn1).2.2 _ u2 _ (List.mem_cons_of_mem _ List.mem_cons_self) rfl
      rw [if_neg (by simpa using u2), wrap_up i (by omega)]
      have hne : ps[i] ≠ (ps[i] + 1) % n := by
        intro e
        by_cases e2 : ps[i] + 1 = n
        · rw [e2, Int.emod_self] at e
          omega
        · rw [Int.emod_eq_of_lt (by omega) (by omega)] at e
          omega
      refine ih k (i + 1) _ (by omega) (by omega) ⟨by simpa using hl16, fun p hp => ?_, fun x hxm => ?_, fun j hj hj' => ?_, ?_⟩ (by omega)
      · rw [List.getD_eq_getElem?_getD, List.getElem?_set, List.getElem?_set, hh, List.length_set]
        have hp2 := h3.us p hp
        rw [List.getD_eq_getElem?_getD] at hp2
        by_cases e2 : ((ps[i] + 1) % n).toNat = p
        · rw [if_pos e2, if_pos (by omega)]
          have : (p : Int) ∈ halvesL n (ps.take i) ++ [ps[i], (ps[i] + 1) % n] := by
            rw [List.mem_append]
            right
            rw [List.mem_cons, List.mem_singleton]
            right; omega
          simp only [Option.getD_some]
          exact (decide_eq_true this).symm
        · rw [if_neg e2]
          by_cases e1 : ps[i].toNat = p
          · rw [if_pos e1, if_pos (by omega)]
            have : (p : Int) ∈ halvesL n (ps.take i) ++ [ps[i], (ps[i] + 1) % n] := by
              rw [List.mem_append]
              right
              rw [List.mem_cons, List.mem_singleton]
              left; omega
            simp only [Option.getD_some]
            exact (decide_eq_true this).symm
          · rw [if_neg e1, hp2, Bool.eq_iff_iff, decide_eq_true_eq, decide_eq_true_eq, List.mem_append, List.mem_cons, List.mem_singleton]
            constructor
            · exact .inl
            · rintro (h | h | h)
              · exact h
              · omega
              · omega
      · rw [List.take_succ_eq_append_getElem hlt, List.mem_append, List.mem_singleton] at hxm
        rcases hxm with h | rfl
        · exact h3.ins x h
        · omega
      · by_cases e : j + 1 = i
        · subst e
          have : ¬ (ps[j + 1] ≤ ps[j]) := fun h => hup ⟨by omega, h⟩
          omega
        · exact h3.up j (by omega) (by omega)
      · rw [hh, List.nodup_append]
        refine ⟨h3.nod, by simpa using hne, fun x hx1 y hy => ?_⟩
        rw [List.mem_cons, List.mem_singleton] at hy
        rcases hy with rfl | rfl
        · exact fun e => u1 (e ▸ hx1)
        · exact fun e => u2 (e ▸ hx1)
    by_cases c3 : (i : Int) > 0
    · rw [if_pos c3]
      have hw : wrap64 ((i : Int) - 1) = ((i - 1 : Nat) : Int) := by unfold wrap64; omega
      rw [hw, if_pos (by omega), if_pos (by omega), rd_at ps (i - 1) (by omega)]
      by_cases c4 : ps[i] ≤ ps[i - 1]
      · rw [decide_eq_true c4, hT, rule3B_no]
        rintro ⟨_, hs, hn⟩
        have h9 := List.pairwise_iff_getElem.1 hs (i - 1) i (by omega) hlt (by omega)
        have e : ps[i] = ps[i - 1] := by omega
        have hn1 := halvesL_prefix n ps (i + 1) hn
        rw [halvesL_take n ps i hlt] at hn1
        refine (List.nodup_append.1 hn1).2.2 ps[i] ?_ _ (List.mem_cons_self) rfl
        rw [e]
        unfold halvesL
        rw [List.mem_flatMap]
        refine ⟨ps[i - 1], ?_, List.mem_cons_self⟩
        rw [List.mem_iff_getElem]
        exact ⟨i - 1, by rw [List.length_take]; omega, by rw [List.getElem_take]⟩
      · rw [decide_eq_false c4]
        exact hF fun h => c4 h.2
    · rw [if_neg c3]
      exact hF fun h => by omega
theorem refPairs (h4 : 4 ≤ n) (h16 : n ≤ 16) (hl : ps.length ≤ 1000000) : sennitref04_pairs.f (2 * ps.length + 1) n ps ss a3 bs ts a6 a7 a8 = some (rule3B n ps) := by
  unfold sennitref04_pairs.f
  rw [if_pos (by omega)]
  refine pairs_l0 n a3 a6 a7 a8 ps ss bs ts h4 h16 hl ps.length _ 0 _ (by omega) (by omega) ⟨by simp, fun p hp => ?_, fun x hx => by simp at hx, fun j h => by omega, by simp [halvesL]⟩ (by omega)
  rw [List.getD_eq_getElem?_getD, List.getElem?_replicate, if_pos hp]
  simp [halvesL]
end
/-- The reference's look at the pairs. -/
theorem refpairs_any (nodes long miss good fresh : Int) (pa sa ba ta : Option Addr) (pn pc sn sc bn bc tn tc : Nat) (ps ss bs : List Int) (ts : List (Int × Int × Int)) (w : World) (hC : CfgIn w nodes long miss good fresh pa sa ba ta pn pc sn sc bn bc tn tc ps ss bs ts) (h4 : 4 ≤ nodes) (h16 : nodes ≤ 16) (hl : pn ≤ 1000000) :
    Calls Tryd.prog 72 #[.agg #[.int .i64 nodes, .slice pa pn pc, .slice sa sn sc, .int .i64 long, .slice ba bn bc, .slice ta tn tc, .int .i64 miss, .int .i64 good, .int .i64 fresh]] w fun e w' => e = .returned (.bool (rule3B nodes ps)) ∧ Below w.heap.size w w' := by
  have e1 := hC.rp.len
  have e2 := hC.rs.len
  have e3 := hC.rb.len
  have e4 : (ts.map toS).length = tn := by rw [List.length_map]; exact hC.rt.len
  have h := sennitref04_pairs.calls (2 * ps.length + 1) nodes pa pc ps sa sc ss long ba bc bs ta tc (ts.map toS) miss good fresh (rule3B nodes ps) w hC.rp.kd (by rw [e1]; exact hC.op.le) hC.rs.kd (by rw [e2]; exact hC.os.le) hC.rb.kd (by rw [e3]; exact hC.ob.le) hC.rt.kd (by rw [e4]; exact hC.ot.le) (refPairs nodes long miss good fresh ps ss bs _ h4 h16 (by omega))
  rw [e1, e2, e3, e4] at h
  exact h
end Go.Proofs.YtibncdkekceokaaDoor
