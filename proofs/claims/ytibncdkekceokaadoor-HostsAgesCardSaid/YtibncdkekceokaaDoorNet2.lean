/- A net's methods: Round, Partner, Next, Given. -/
import Derived.Test.YtibncdkekceokaaDoorCoreC
namespace Go.Proofs.YtibncdkekceokaaDoor
open Go.RowKit

/-- How many ticks a round has. -/
def roundF (qs : List Int) (c : Cfg) : Int := if 0 < qs.length then (c.ss.length : Int) * c.long else 0
theorem netround_any (p : Option Addr) (c : Cfg) (qs : List Int) (w : World) (h : NetP w p c qs) (hq : 0 < qs.length → c.ss.length ≤ 16 ∧ 0 ≤ c.long ∧ c.long ≤ 4096) :
    Calls Tryd.prog 36 #[.pointer p] w fun e w' => e = .returned (.int .i64 (roundF qs c)) ∧ ∃ k, w' = w.drewN k := by
  have hth := there_any p c qs w h
  by_cases h0 : 0 < qs.length
  · rw [decide_eq_true h0] at hth
    obtain ⟨h1, h2, h3⟩ := hq h0
    have e : roundF qs c = (c.ss.length : Int) * c.long := if_pos h0
    rw [e]
    rcases h with ⟨_, rfl⟩ | ⟨b, pa, sa, ba, ta, qa, rfl, hv⟩
    · exact absurd h0 (by simp)
    · have c2 := hv.c2
      have c3 := hv.c3
      have hw : wrap64 ((c.ss.length : Int) * c.long) = (c.ss.length : Int) * c.long := by
        have p1 : 0 ≤ (c.ss.length : Int) * c.long := Int.mul_nonneg (by omega) h2
        have p2 : (c.ss.length : Int) * c.long ≤ 16 * 4096 := Int.mul_le_mul (by omega) h3 h2 (by omega)
        unfold wrap64; omega
      generalize c.ss.length = m at c2 hw
      generalize c.long = l at c3 hw
      have HW := Lib.hid hw
      clear hw h1 h2 h3 e
      go_enter Tryd.func36, Tryd.ntmps36
      go_wp2_with (first | (go_at_call 77; refine (hth).mono ?_; rintro e w' ⟨rfl, rfl⟩) | fail)
      first | go_quiet (fail) | skip
      try go_wp2
      go_ret
      exact ⟨ret_int (by first | exact HW.out | rfl | (rw [← HW.out]; rfl)), by first | exact ⟨_, rfl⟩ | exact ⟨0, rfl⟩⟩
  · rw [decide_eq_false h0] at hth
    have e : roundF qs c = 0 := if_neg h0
    rw [e]
    go_enter Tryd.func36, Tryd.ntmps36
    go_wp2_with (first | (go_at_call 77; refine (hth).mono ?_; rintro e w' ⟨rfl, rfl⟩) | fail)
    go_ret
    exact ⟨rfl, 0, rfl⟩

/-- A node's partner. -/
def partnerF (qs : List Int) (c : Cfg) (i : Int) : Int :=
  if fromL qs c.ps (fromL qs qs i) = -1 then -1 else if fromL qs c.ps (fromL qs qs i) = i then stepF c.nodes 0 i 1 else fromL qs c.ps (fromL qs qs i)
theorem partner_any (p : Option Addr) (c : Cfg) (qs : List Int) (i : Int) (w : World) (h : NetP w p c qs) (hs : Signs w) :
    Calls Tryd.prog 40 #[.pointer p, .int .i64 i] w fun e w' => e = .returned (.int .i64 (partnerF qs c i)) ∧ ∃ k, w' = w.drewN k := by
  have h1 := pair_any p c qs i w h
  have h2 := netfirst_any p c qs (fromL qs qs i) w h
  have hd : partnerF qs c i = if fromL qs c.ps (fromL qs qs i) = -1 then -1 else if fromL qs c.ps (fromL qs qs i) = i then stepF c.nodes 0 i 1 else fromL qs c.ps (fromL qs qs i) := rfl
  have hq0 : fromL qs c.ps (fromL qs qs i) ≠ -1 → 0 < qs.length := fun hne => by
    apply Classical.byContradiction
    intro hn
    exact hne (if_neg hn)
  generalize partnerF qs c i = r at hd ⊢
  generalize fromL qs qs i = j at h1 h2 hd hq0
  generalize fromL qs c.ps j = a at h2 hd hq0
  by_cases a1 : a = -1
  · subst a1
    rw [if_pos rfl] at hd
    subst hd
    clear hq0
    go_enter Tryd.func40, Tryd.ntmps40
    go_wp2_with (first | (go_at_call 39; refine (h1).mono ?_; rintro e w' ⟨rfl, rfl⟩) | (go_at_call 38; refine (h2).mono ?_; rintro e w' ⟨rfl, rfl⟩) | fail)
    go_ret
    exact ⟨rfl, 0, rfl⟩
  · rw [if_neg a1] at hd
    have b1 : (a == -1) = false := by simpa using a1
    by_cases a2 : a = i
    · subst a2
      rw [if_pos rfl] at hd
      have hst := step_any c.nodes 0 a 1 w (by omega) (by omega) (by omega) hs
      rw [← hd] at hst
      rcases h with ⟨_, rfl⟩ | ⟨b, pa, sa, ba, ta, qa, rfl, hv⟩
      · exact absurd (hq0 a1) (by simp)
      · have c0 := hv.c0
        generalize c.nodes = n at c0 hst
        clear hd hq0 hs hv
        go_enter Tryd.func40, Tryd.ntmps40
        go_wp2_with (first | (go_at_call 39; refine (h1).mono ?_; rintro e w' ⟨rfl, rfl⟩) | (go_at_call 38; refine (h2).mono ?_; rintro e w' ⟨rfl, rfl⟩) | (go_at_call 79; refine (hst).mono ?_; rintro e w' ⟨rfl, k1, rfl⟩) | fail)
        go_ret
        exact ⟨rfl, _, rfl⟩
    · rw [if_neg a2] at hd
      subst hd
      have b2 : (r == i) = false := by simpa using a2
      clear hq0
      go_enter Tryd.func40, Tryd.ntmps40
      go_wp2_with (first | (go_at_call 39; refine (h1).mono ?_; rintro e w' ⟨rfl, rfl⟩) | (go_at_call 38; refine (h2).mono ?_; rintro e w' ⟨rfl, rfl⟩) | fail)
      go_ret
      exact ⟨rfl, 0, rfl⟩

/-- The next slot of a pair, within so many slots. -/
def nextS (ss : List Int) (pair : Int) : Nat → Int → Int
  | 0, s => s
  | d + 1, s => if ss.getD (s % ss.length).toNat 0 = pair then s else nextS ss pair d (s + 1)
def nextSlotF (qs : List Int) (c : Cfg) (slot pair : Int) : Int :=
  if slot < 0 ∨ 1099511627776 < slot ∨ fromL qs c.ps pair = -1 then -1 else nextS c.ss pair c.ss.length slot
theorem nextS_hit (ss : List Int) (pair : Int) : ∀ (d : Nat) (s : Int) (k : Nat), k < d → ss.getD ((s + k) % ss.length).toNat 0 = pair →
    s ≤ nextS ss pair d s ∧ nextS ss pair d s ≤ s + k ∧ ss.getD ((nextS ss pair d s) % ss.length).toNat 0 = pair ∧ ∀ j : Int, s ≤ j → j < nextS ss pair d s → ss.getD (j % ss.length).toNat 0 ≠ pair := by
  intro d
  induction d with
  | zero => intro s k hk; omega
  | succ d ih =>
    intro s k hk hp
    simp only [nextS]
    by_cases e : ss.getD (s % ss.length).toNat 0 = pair
    · rw [if_pos e]
      exact ⟨Int.le_refl _, by omega, e, fun j h1 h2 => by omega⟩
    · rw [if_neg e]
      have hk0 : k ≠ 0 := by
        rintro rfl
        rw [show s + ((0 : Nat) : Int) = s by omega] at hp
        exact e hp
      obtain ⟨q1, q2, q3, q4⟩ := ih (s + 1) (k - 1) (by omega) (by rw [show s + 1 + ((k - 1 : Nat) : Int) = s + k by omega]; exact hp)
      refine ⟨by omega, by omega, q3, fun j h1 h2 => ?_⟩
      by_cases ej : j = s
      · rw [ej]; exact e
      · exact q4 j (by omega) h2
theorem mod_reach (n : Nat) (hn : 0 < n) (s : Int) (j : Nat) (hj : j < n) : ∃ k : Nat, k < n ∧ (s + k) % n = j := by
  refine ⟨((j - s) % n).toNat, ?_, ?_⟩
  · have := Int.emod_lt_of_pos (j - s) (show (0 : Int) < n by omega)
    have := Int.emod_nonneg (j - s) (show (n : Int) ≠ 0 by omega)
    omega
  · have h0 := Int.emod_nonneg ((j : Int) - s) (show (n : Int) ≠ 0 by omega)
    rw [Int.toNat_of_nonneg h0, Int.add_emod_emod, show s + ((j : Int) - s) = j by omega]
    exact Int.emod_eq_of_lt (by omega) (by omega)
/-- In a config that may be each pair has a slot soon. -/
theorem next_ok {c : Cfg} (h : CfgOK c) (p : Nat) (hp : p < c.ps.length) (s : Int) :
    s ≤ nextS c.ss p c.ss.length s ∧ nextS c.ss p c.ss.length s < s + c.ss.length ∧ c.ss.getD ((nextS c.ss p c.ss.length s) % c.ss.length).toNat 0 = p ∧ ∀ j : Int, s ≤ j → j < nextS c.ss p c.ss.length s → c.ss.getD (j % c.ss.length).toNat 0 ≠ p := by
  obtain ⟨j, hj, he⟩ := List.mem_iff_getElem.1 (h.sall p hp)
  obtain ⟨k, hk, hm⟩ := mod_reach c.ss.length (by omega) s j hj
  have := nextS_hit c.ss p c.ss.length s k hk (by rw [hm, Int.toNat_natCast, List.getD_eq_getElem?_getD, List.getElem?_eq_getElem hj]; exact he)
  exact ⟨this.1, by omega, this.2.2.1, this.2.2.2⟩
set_option maxHeartbeats 2000000 in
theorem nextslot_any (b : Nat) (pa sa ba ta qa : Option Addr) (c : Cfg) (hok : CfgOK c) (slot pair : Int) (w : World) (hv : NetV w b c c.pairs pa sa ba ta qa) :
    Calls Tryd.prog 41 #[.pointer (some ⟨b, 0, none⟩), .int .i64 slot, .int .i64 pair] w fun e w' => e = .returned (.int .i64 (nextSlotF c.pairs c slot pair)) ∧ ∃ k, w' = w.drewN k := by
  have hd : nextSlotF c.pairs c slot pair = if slot < 0 ∨ 1099511627776 < slot ∨ fromL c.pairs c.ps pair = -1 then -1 else nextS c.ss pair c.ss.length slot := rfl
  have h1 := netfirst_any (some ⟨b, 0, none⟩) c c.pairs pair w (.inr ⟨b, pa, sa, ba, ta, qa, rfl, hv⟩)
  by_cases s0 : slot < 0
  · rw [if_pos (.inl s0)] at hd
    rw [hd]
    clear hd
    go_enter Tryd.func41, Tryd.ntmps41
    go_wp2_with fail
    go_ret
    exact ⟨rfl, 0, rfl⟩
  by_cases s1 : 1099511627776 < slot
  · rw [if_pos (.inr (.inl s1))] at hd
    rw [hd]
    clear hd
    go_enter Tryd.func41, Tryd.ntmps41
    go_wp2_with fail
    go_ret
    exact ⟨rfl, 0, rfl⟩
  have d0 : decide (slot < 0) = false := decide_eq_false s0
  have d1 : decide (1099511627776 < slot) = false := decide_eq_false s1
  by_cases a1 : fromL c.pairs c.ps pair = -1
  · rw [if_pos (.inr (.inr a1))] at hd
    rw [a1] at h1
    rw [hd]
    clear hd a1 s0 s1
    go_enter Tryd.func41, Tryd.ntmps41
    go_wp2_with (first | (go_at_call 38; refine (h1).mono ?_; rintro e w' ⟨rfl, rfl⟩) | fail)
    go_ret
    exact ⟨rfl, 0, rfl⟩
  have b1 : (fromL c.pairs c.ps pair == -1) = false := by simpa using a1
  rw [if_neg (by rintro (h | h | h) <;> contradiction)] at hd
  have hpr : 0 ≤ pair ∧ pair < c.ps.length := by
    apply Classical.byContradiction
    intro hn
    apply a1
    unfold fromL
    split
    · unfold atL
      rw [if_neg hn]
    · rfl
  obtain ⟨p, rfl⟩ : ∃ p : Nat, pair = p := ⟨pair.toNat, by omega⟩
  have HN := Lib.hid (next_ok hok p (by omega) slot)
  rw [hd]
  clear hd a1 hpr
  have hn16 := hok.s16
  have hn1 := hok.s1
  generalize fromL c.pairs c.ps p = fp at h1 b1
  have c2 := hv.c2
  have HRS := Lib.hid hv.rs
  obtain ⟨r, hr⟩ : ∃ r, r = nextS c.ss p c.ss.length slot := ⟨_, rfl⟩
  rw [← hr] at HN ⊢
  have hlen := HRS.out.len
  generalize hm : c.ss.length = m at c2 HN HRS hn16 hn1
  have HM := Lib.hid hm
  clear hr hv hm hlen
  go_enter Tryd.func41, Tryd.ntmps41
  go_wp2_with (first | (go_at_call 38; refine (h1).mono ?_; rintro e w' ⟨rfl, rfl⟩) | fail)
  go_loopw [1] (fun i wr => ∃ (s : Int) (q : Nat), i = .int .i64 s ∧ slot ≤ s ∧ s ≤ r ∧ wr = w.drewN q) (fun i _ => (r - intOf i).toNat)
  case atStart => exact ⟨slot, 0, rfl, Int.le_refl _, HN.out.1, rfl⟩
  case round =>
    obtain ⟨s, q, rfl, hs1, hs2, rfl⟩ := hrel
    have hN := HN.out
    obtain ⟨n1, n2, n3, n4⟩ := hN
    have hmp : (m : Int) ≠ 0 := by omega
    have y0 := Int.emod_nonneg s hmp
    have y1 := Int.emod_lt_of_pos s (show 0 < (m : Int) by omega)
    have hgt : ∀ h : (s % m).toNat < c.ss.length, c.ss.getD (s % m).toNat 0 = c.ss[(s % m).toNat]'h := fun h => by
      rw [List.getD_eq_getElem?_getD, List.getElem?_eq_getElem h]; rfl
    obtain ⟨y, hy⟩ : ∃ y : Nat, s % m = y := ⟨(s % m).toNat, by omega⟩
    have hym : y < m := by omega
    obtain ⟨bb, off, rfl, hcell⟩ := HRS.out.cells y hym
    have htm : s.tmod (m : Int) = (y : Int) := by rw [Int.tmod_eq_emod_of_nonneg (by omega)]; exact hy
    have hv : c.ss.getD (s % m).toNat 0 = c.ss[y]'(by rw [HM.out]; exact hym) := by
      rw [hgt (by rw [hy, HM.out]; omega)]
      simp only [hy, Int.toNat_natCast]
    generalize c.ss[y]'(by rw [HM.out]; exact hym) = x at hcell hv
    unfold eI at hcell
    have c2q : (w.drewN q).cell? ⟨b, 2, none⟩ = some (.slice (some ⟨bb, off, none⟩) m m) := c2
    have hm0 : ¬ m = 0 := by omega
    have z0 : ((m : Int) == 0) = false := by simpa using hmp
    have w1 : IntKind.i64.wrap (m : Int) = m := by rw [IntKind.wrap_i64]; omega
    have w2 : IntKind.i64.wrap (y : Int) = y := by rw [IntKind.wrap_i64]; omega
    have N := Lib.hid (⟨n1, n2, n3, n4⟩ : _ ∧ _ ∧ _ ∧ _)
    have HV := Lib.hid hv
    have s64 : s ≤ 1099511627792 := by omega
    have s00 : 0 ≤ s := by omega
    clear n1 n2 n3 n4 hv hgt y0 y1 hy
    by_cases e : x = p
    · have b2 : (x != (p : Int)) = false := by simpa using e
      have HE := Lib.hid e
      clear e
      go_wp2
      go_quiet (fail)
      go_wp2
      go_ret
      refine ⟨ret_int ?_, _, by first | rfl | exact World.drewN_drewN ..⟩
      obtain ⟨n1, n2, n3, n4⟩ := N.out
      apply Classical.byContradiction
      intro hne
      exact n4 s hs1 (by omega) (by rw [HV.out]; exact HE.out)
    · have b2 : (x != (p : Int)) = true := by simpa using e
      have HE := Lib.hid e
      clear e
      go_wp2
      go_quiet (fail)
      go_wp2
      go_roundw
      case rel =>
        obtain ⟨n1, n2, n3, n4⟩ := N.out
        have hne : s ≠ r := by
          intro e2
          rw [← e2, HV.out] at n3
          exact HE.out n3
        exact ⟨s + 1, _, rfl, by omega, by omega, rfl⟩
      case measure =>
        obtain ⟨n1, n2, n3, n4⟩ := N.out
        have hne : s ≠ r := by
          intro e2
          rw [← e2, HV.out] at n3
          exact HE.out n3
        simp [intOf]; omega
end Go.Proofs.YtibncdkekceokaaDoor
