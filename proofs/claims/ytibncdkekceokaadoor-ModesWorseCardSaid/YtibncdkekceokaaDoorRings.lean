/- rings: the contracts of its functions. -/
import Derived.Test.YtibncdkekceokaaDoorBase
namespace Go.Proofs.YtibncdkekceokaaDoor
open Go.RowKit

def ringB (n d : Int) : Bool := decide (4 ≤ n ∧ n ≤ 16 ∧ d ≤ 1)
def nodeB (n i : Int) : Bool := decide (0 ≤ i ∧ i < n)
theorem ringB_true {n d : Int} (h : ringB n d = true) : 4 ≤ n ∧ n ≤ 16 ∧ d ≤ 1 := by simpa [ringB] using h
theorem nodeB_true {n i : Int} (h : nodeB n i = true) : 0 ≤ i ∧ i < n := by simpa [nodeB] using h

theorem ring_any (n d : Int) (w : World) :
    Calls Tryd.prog 82 #[.int .i64 n, .int .u8 d] w fun e w' => e = .returned (.bool (ringB n d)) ∧ w = w' := by
  go_enter Tryd.func82, Tryd.ntmps82
  go_wp2
  all_goals (go_ret; refine ⟨ret_bool ?_, rfl⟩; simp [ringB, *]; try omega)
theorem node_any (n i : Int) (w : World) :
    Calls Tryd.prog 83 #[.int .i64 n, .int .i64 i] w fun e w' => e = .returned (.bool (nodeB n i)) ∧ w = w' := by
  go_enter Tryd.func83, Tryd.ntmps83
  go_wp2
  all_goals (go_ret; refine ⟨ret_bool ?_, rfl⟩; simp [nodeB]; try omega)

theorem round_eq (n i : Int) (hn : 4 ≤ n) (hn' : n ≤ 16) : (wrap64 (i.tmod n + n)).tmod n = i % n := by
  have h1 := Int.tmod_lt_of_pos i (show 0 < n by omega)
  have h2 : -n < i.tmod n := by
    have := Int.tmod_lt_of_pos (-i) (show 0 < n by omega)
    rw [Int.neg_tmod] at this; omega
  have e : wrap64 (i.tmod n + n) = i.tmod n + n := by unfold wrap64; omega
  rw [e, Int.tmod_eq_emod_of_nonneg (by omega), Int.add_emod_right, Int.tmod_def]
  exact Int.sub_mul_emod_self_left i n _
theorem round_any (n i : Int) (w : World) (hn : 4 ≤ n) (hn' : n ≤ 16) :
    Calls Tryd.prog 84 #[.int .i64 n, .int .i64 i] w fun e w' => e = .returned (.int .i64 (i % n)) ∧ w = w' := by
  go_enter Tryd.func84, Tryd.ntmps84
  go_wp2
  go_ret
  exact ⟨ret_int (round_eq n i hn hn'), rfl⟩

theorem small_tmod (n s : Int) (hn : 4 ≤ n) (h1 : -2 ≤ s) (h2 : s ≤ 2) : s.tmod n = s := by
  rcases Int.le_total 0 s with h | h
  · rw [Int.tmod_eq_emod_of_nonneg h]; exact Int.emod_eq_of_lt h (by omega)
  · have : (-s).tmod n = -s := by rw [Int.tmod_eq_emod_of_nonneg (by omega)]; exact Int.emod_eq_of_lt (by omega) (by omega)
    rw [Int.neg_tmod] at this; omega
/-- Step, as a number. -/
def stepF (n d at_ steps : Int) : Int := if ringB n d = true ∧ nodeB n at_ = true then (if d = 0 then (at_ + steps) % n else (at_ - steps) % n) else -1
set_option maxHeartbeats 1000000 in
theorem step_no (n d at_ steps : Int) (w : World) (h : ¬ (ringB n d = true ∧ nodeB n at_ = true)) :
    Calls Tryd.prog 79 #[.int .i64 n, .int .u8 d, .int .i64 at_, .int .i64 steps] w fun e w' => e = .returned (.int .i64 (-1)) ∧ w = w' := by
  cases h1 : ringB n d with
  | false =>
    go_enter Tryd.func79, Tryd.ntmps79
    go_wp2_with (first | (go_at_call 82; refine (ring_any _ _ _).mono ?_; rintro e w' ⟨rfl, rfl⟩))
    go_ret
    exact ⟨rfl, rfl⟩
  | true =>
    have h2 : nodeB n at_ = false := by
      cases h2 : nodeB n at_ with
      | false => rfl
      | true => exact absurd ⟨h1, h2⟩ h
    clear h
    go_enter Tryd.func79, Tryd.ntmps79
    go_wp2_with (first | (go_at_call 82; refine (ring_any _ _ _).mono ?_; rintro e w' ⟨rfl, rfl⟩) | (go_at_call 83; refine (node_any _ _ _).mono ?_; rintro e w' ⟨rfl, rfl⟩))
    go_ret
    exact ⟨rfl, rfl⟩
theorem step_yes (n d at_ steps : Int) (w : World) (h1 : ringB n d = true) (h2 : nodeB n at_ = true) (hd : d = 0 ∨ d = 1) (l1 : -2 ≤ steps) (l2 : steps ≤ 2) (hs : Signs w) :
    Calls Tryd.prog 79 #[.int .i64 n, .int .u8 d, .int .i64 at_, .int .i64 steps] w fun e w' => e = .returned (.int .i64 (if d = 0 then (at_ + steps) % n else (at_ - steps) % n)) ∧ ∃ k, w' = w.drewN k := by
  have b1 := ringB_true h1
  have b2 := nodeB_true h2
  have c0 := hs.s0
  have c1 := hs.s1
  have n4 := b1.1
  have n16 := b1.2.1
  have z0 : ¬ n = 0 := by omega
  have z1 : (n == 0) = false := by simpa using z0
  have e0 := small_tmod n steps b1.1 l1 l2
  have p1 := b2.1
  have p2 := b2.2
  clear b1 b2
  rcases hd with rfl | rfl
  · go_enter Tryd.func79, Tryd.ntmps79
    go_wp2_with (first | (go_at_call 82; refine (ring_any _ _ _).mono ?_; rintro e w' ⟨rfl, rfl⟩) | (go_at_call 83; refine (node_any _ _ _).mono ?_; rintro e w' ⟨rfl, rfl⟩))
    go_quiet ((go_at_call 84; exact quiet_eq (round_any _ _ _ (by omega) (by omega))))
    go_wp2
    go_ret
    exact ⟨ret_int (by first | rfl | (show _ % n = _ % n; congr 1; omega)), _, rfl⟩
  · go_enter Tryd.func79, Tryd.ntmps79
    go_wp2_with (first | (go_at_call 82; refine (ring_any _ _ _).mono ?_; rintro e w' ⟨rfl, rfl⟩) | (go_at_call 83; refine (node_any _ _ _).mono ?_; rintro e w' ⟨rfl, rfl⟩))
    go_quiet ((go_at_call 84; exact quiet_eq (round_any _ _ _ (by omega) (by omega))))
    go_wp2
    go_ret
    exact ⟨ret_int (by first | rfl | (show _ % n = _ % n; congr 1; omega)), _, rfl⟩
theorem step_any (n d at_ steps : Int) (w : World) (hd : 0 ≤ d) (l1 : -2 ≤ steps) (l2 : steps ≤ 2) (hs : Signs w) :
    Calls Tryd.prog 79 #[.int .i64 n, .int .u8 d, .int .i64 at_, .int .i64 steps] w fun e w' => e = .returned (.int .i64 (stepF n d at_ steps)) ∧ ∃ k, w' = w.drewN k := by
  unfold stepF
  by_cases h : ringB n d = true ∧ nodeB n at_ = true
  · rw [if_pos h]
    have := ringB_true h.1
    exact step_yes n d at_ steps w h.1 h.2 (by omega) l1 l2 hs
  · rw [if_neg h]
    exact (step_no n d at_ steps w h).mono fun _ _ ⟨he, hw⟩ => ⟨he, 0, hw ▸ rfl⟩

def distF (n d a b : Int) : Int := if ringB n d = true ∧ nodeB n a = true ∧ nodeB n b = true then (if d = 0 then (b - a) % n else (a - b) % n) else -1
set_option maxHeartbeats 1000000 in
theorem dist_no (n d a b : Int) (w : World) (h : ¬ (ringB n d = true ∧ nodeB n a = true ∧ nodeB n b = true)) :
    Calls Tryd.prog 44 #[.int .i64 n, .int .u8 d, .int .i64 a, .int .i64 b] w fun e w' => e = .returned (.int .i64 (-1)) ∧ w = w' := by
  cases h1 : ringB n d with
  | false =>
    clear h
    go_enter Tryd.func44, Tryd.ntmps44
    go_wp2_with (first | (go_at_call 82; refine (ring_any _ _ _).mono ?_; rintro e w' ⟨rfl, rfl⟩))
    go_ret
    exact ⟨rfl, rfl⟩
  | true =>
    cases h2 : nodeB n a with
    | false =>
      clear h
      go_enter Tryd.func44, Tryd.ntmps44
      go_wp2_with (first | (go_at_call 82; refine (ring_any _ _ _).mono ?_; rintro e w' ⟨rfl, rfl⟩) | (go_at_call 83; refine (node_any _ _ _).mono ?_; rintro e w' ⟨rfl, rfl⟩))
      go_ret
      exact ⟨rfl, rfl⟩
    | true =>
      have h3 : nodeB n b = false := by
        cases h3 : nodeB n b with
        | false => rfl
        | true => exact absurd ⟨h1, h2, h3⟩ h
      clear h
      go_enter Tryd.func44, Tryd.ntmps44
      go_wp2_with (first | (go_at_call 82; refine (ring_any _ _ _).mono ?_; rintro e w' ⟨rfl, rfl⟩) | (go_at_call 83; refine (node_any _ _ _).mono ?_; rintro e w' ⟨rfl, rfl⟩))
      go_ret
      exact ⟨rfl, rfl⟩
set_option maxHeartbeats 1000000 in
theorem dist_yes (n d a b : Int) (w : World) (h1 : ringB n d = true) (h2 : nodeB n a = true) (h3 : nodeB n b = true) (hd : d = 0 ∨ d = 1) (hs : Signs w) :
    Calls Tryd.prog 44 #[.int .i64 n, .int .u8 d, .int .i64 a, .int .i64 b] w fun e w' => e = .returned (.int .i64 (if d = 0 then (b - a) % n else (a - b) % n)) ∧ ∃ k, w' = w.drewN k := by
  have b1 := ringB_true h1
  have b2 := nodeB_true h2
  have b3 := nodeB_true h3
  have c0 := hs.s0
  have c1 := hs.s1
  have n4 := b1.1
  have n16 := b1.2.1
  have p1 := b2.1
  have p2 := b2.2
  have q1 := b3.1
  have q2 := b3.2
  clear b1 b2 b3
  rcases hd with rfl | rfl
  · go_enter Tryd.func44, Tryd.ntmps44
    go_wp2_with (first | (go_at_call 82; refine (ring_any _ _ _).mono ?_; rintro e w' ⟨rfl, rfl⟩) | (go_at_call 83; refine (node_any _ _ _).mono ?_; rintro e w' ⟨rfl, rfl⟩) | (go_at_call 84; refine (round_any _ _ _ (by omega) (by omega)).mono ?_; rintro e w' ⟨rfl, rfl⟩))
    go_ret
    exact ⟨ret_int (by first | rfl | (show _ % n = _ % n; congr 1; omega)), 0, rfl⟩
  · go_enter Tryd.func44, Tryd.ntmps44
    go_wp2_with (first | (go_at_call 82; refine (ring_any _ _ _).mono ?_; rintro e w' ⟨rfl, rfl⟩) | (go_at_call 83; refine (node_any _ _ _).mono ?_; rintro e w' ⟨rfl, rfl⟩) | (go_at_call 84; refine (round_any _ _ _ (by omega) (by omega)).mono ?_; rintro e w' ⟨rfl, rfl⟩))
    go_ret
    exact ⟨ret_int (by first | rfl | (show _ % n = _ % n; congr 1; omega)), 0, rfl⟩
theorem dist_any (n d a b : Int) (w : World) (hd : 0 ≤ d) (hs : Signs w) :
    Calls Tryd.prog 44 #[.int .i64 n, .int .u8 d, .int .i64 a, .int .i64 b] w fun e w' => e = .returned (.int .i64 (distF n d a b)) ∧ ∃ k, w' = w.drewN k := by
  unfold distF
  by_cases h : ringB n d = true ∧ nodeB n a = true ∧ nodeB n b = true
  · rw [if_pos h]
    have := ringB_true h.1
    exact dist_yes n d a b w h.1 h.2.1 h.2.2 (by omega) hs
  · rw [if_neg h]
    exact (dist_no n d a b w h).mono fun _ _ ⟨he, hw⟩ => ⟨he, 0, hw ▸ rfl⟩

def placeF (n d f a : Int) : Int := distF n d (if d = 1 then stepF n 0 f 1 else f) a
theorem place_any (n d f a : Int) (w : World) (hd : 0 ≤ d) (hs : Signs w) :
    Calls Tryd.prog 85 #[.int .i64 n, .int .u8 d, .int .i64 f, .int .i64 a] w fun e w' => e = .returned (.int .i64 (placeF n d f a)) ∧ ∃ k, w' = w.drewN k := by
  by_cases h : d = 1
  · subst h
    go_enter Tryd.func85, Tryd.ntmps85
    go_wp2_with (first | (go_at_call 79; refine (step_any _ _ _ _ _ (by omega) (by omega) (by omega) hs).mono ?_; rintro e w' ⟨rfl, k1, rfl⟩) | (go_at_call 44; refine (dist_any _ _ _ _ _ (by omega) (hs.drawn _)).mono ?_; rintro e w' ⟨rfl, k2, rfl⟩))
    go_ret
    exact ⟨rfl, _, rfl⟩
  · have h1 : (d == 1) = false := by simpa using h
    go_enter Tryd.func85, Tryd.ntmps85
    go_wp2_with (first | (go_at_call 44; refine (dist_any _ _ _ _ _ (by omega) hs).mono ?_; rintro e w' ⟨rfl, k2, rfl⟩))
    go_ret
    exact ⟨by simp [placeF, h], _, rfl⟩

def hopsB (h : Int) : Bool := decide (h = 1 ∨ h = 2)
theorem hops_any (h : Int) (w : World) :
    Calls Tryd.prog 87 #[.int .i64 h] w fun e w' => e = .returned (.bool (hopsB h)) ∧ w = w' := by
  by_cases h1 : h = 1
  · subst h1
    go_enter Tryd.func87, Tryd.ntmps87
    go_wp2
    go_ret
    exact ⟨rfl, rfl⟩
  · have h2 : (h == 1) = false := by simpa using h1
    go_enter Tryd.func87, Tryd.ntmps87
    go_wp2
    go_ret
    exact ⟨ret_bool (by rw [Bool.eq_iff_iff]; simp [hopsB, h1]), rfl⟩
def sourceF (n d a h : Int) : Int := if hopsB h = true then stepF n d a (-h) else -1
theorem source_any (n d a h : Int) (w : World) (hd : 0 ≤ d) (hs : Signs w) :
    Calls Tryd.prog 57 #[.int .i64 n, .int .u8 d, .int .i64 a, .int .i64 h] w fun e w' => e = .returned (.int .i64 (sourceF n d a h)) ∧ ∃ k, w' = w.drewN k := by
  unfold sourceF
  cases hb : hopsB h with
  | false =>
    go_enter Tryd.func57, Tryd.ntmps57
    go_wp2_with (go_at_call 87; refine (hops_any _ _).mono ?_; rintro e w' ⟨rfl, rfl⟩)
    go_ret
    exact ⟨rfl, 0, rfl⟩
  | true =>
    have hh : h = 1 ∨ h = 2 := by simpa [hopsB] using hb
    have g1 : 1 ≤ h := by omega
    have g2 : h ≤ 2 := by omega
    clear hh
    go_enter Tryd.func57, Tryd.ntmps57
    go_wp2_with (first | (go_at_call 87; refine (hops_any _ _).mono ?_; rintro e w' ⟨rfl, rfl⟩) | (go_at_call 79; refine (step_any _ _ _ _ _ (by omega) (by omega) (by omega) hs).mono ?_; rintro e w' ⟨rfl, k1, rfl⟩))
    go_ret
    exact ⟨rfl, _, rfl⟩
end Go.Proofs.YtibncdkekceokaaDoor
