/- configs: the small functions under its rules. -/
import Derived.Test.YtibncdkekceokaaDoorRings
namespace Go.Proofs.YtibncdkekceokaaDoor
open Go.RowKit

def withinE (x lo hi : Int) : Int := if hi < x then 3 else if x < lo then 1 else 0
theorem within_any (x lo hi : Int) (w : World) :
    Calls Tryd.prog 96 #[.int .i64 x, .int .i64 lo, .int .i64 hi] w fun e w' => e = .returned (.int .i64 (withinE x lo hi)) ∧ w = w' := by
  go_enter Tryd.func96, Tryd.ntmps96
  go_wp2
  all_goals (go_ret; refine ⟨ret_int ?_, rfl⟩; simp [withinE, *])
  all_goals omega
def mustE (b : Bool) : Int := if b then 0 else 1
theorem must_any (b : Bool) (w : World) :
    Calls Tryd.prog 99 #[.bool b] w fun e w' => e = .returned (.int .i64 (mustE b)) ∧ w = w' := by
  cases b <;>
  · go_enter Tryd.func99, Tryd.ntmps99
    go_wp2
    go_ret
    exact ⟨rfl, rfl⟩

def eachE : List Int → Int → Int → Int
  | [], _, _ => 0
  | x :: r, lo, hi => if withinE x lo hi = 0 then eachE r lo hi else withinE x lo hi
theorem each_any (a : Option Addr) (n cap : Nat) (xs : List Int) (lo hi : Int) (w : World) (hr : Reads w eI a n xs) :
    Calls Tryd.prog 109 #[.slice a n cap, .int .i64 lo, .int .i64 hi] w fun e w' => e = .returned (.int .i64 (eachE xs lo hi)) ∧ w = w' := by
  have hsm := hr.small
  go_enter Tryd.func109, Tryd.ntmps109
  go_wp2
  go_loop [12] (fun i => ∃ k : Nat, k ≤ n ∧ i = .int .i64 k ∧ eachE (xs.drop k) lo hi = eachE xs lo hi) (fun i => n - (intOf i).toNat)
  case atStart => exact ⟨0, Nat.zero_le _, rfl, rfl⟩
  case round =>
    obtain ⟨k, hk, rfl, he⟩ := hrel
    by_cases hlt : k < n
    · obtain ⟨b, off, rfl, hc⟩ := hr.cells k hlt
      have hd := List.drop_eq_getElem_cons (l := xs) (i := k) (by have := hr.len; omega)
      have HE : Hid (eachE (xs.drop k) lo hi = eachE xs lo hi) := he
      have HD : Hid _ := hd
      clear he hd
      generalize hx : xs[k]'(by have := hr.len; omega) = x at hc HD
      unfold eI at hc
      clear hx
      go_wp2_with (go_at_call 96; refine (within_any _ _ _ _).mono ?_; rintro e w' ⟨rfl, rfl⟩)
      · have hne : (withinE x lo hi != 0) = true := by assumption
        go_ret
        refine ⟨ret_int ?_, rfl⟩
        rw [← HE.out, HD.out, eachE, if_neg (by simpa using hne)]
      · have heq : (withinE x lo hi != 0) = false := by assumption
        go_round
        case rel =>
          refine ⟨k + 1, by omega, by go_num, ?_⟩
          have h2 := HE.out
          rw [HD.out, eachE, if_pos (by simpa using heq)] at h2
          exact h2
        case measure => simp [intOf]; omega
    · go_wp2
      go_ret
      exact ⟨ret_int (by rw [← he, List.drop_of_length_le (by have := hr.len; omega)]; rfl), rfl⟩

/-- The first of some errors that is one. -/
def firstE : List Int → Int
  | [] => 0
  | x :: r => if x = 0 then firstE r else x
theorem first1_any (x : Int) (w : World) :
    Calls Tryd.prog 130 #[.int .i64 x] w fun e w' => e = .returned (.bool (x != 0)) ∧ w = w' := by
  go_enter Tryd.func130, Tryd.ntmps130
  go_wp2
  go_ret
  exact ⟨rfl, rfl⟩

/-- slices.IndexFunc at errors, of the function that asks whether it is one. -/
theorem indexErr_any (a : Option Addr) (n cap : Nat) (xs : List Int) (w : World) (hr : Reads w eI a n xs) :
    Calls Tryd.prog 129 #[.slice a n cap, .func (.func 130) #[] #[]] w fun e w' => (∃ i : Int, e = .returned (.int .i64 i) ∧ ((i = -1 ∧ firstE xs = 0) ∨ (∃ k : Nat, i = k ∧ ∃ h : k < xs.length, xs[k] = firstE xs))) ∧ w = w' := by
  have hsm := hr.small
  have hlen := Lib.hid hr.len
  go_enter Tryd.func129, Tryd.ntmps129
  go_wp2
  go_loop [8] (fun i => ∃ k : Nat, k ≤ n ∧ i = .int .i64 k ∧ firstE (xs.drop k) = firstE xs) (fun i => n - (intOf i).toNat)
  case atStart => exact ⟨0, Nat.zero_le _, rfl, rfl⟩
  case round =>
    obtain ⟨k, hk, rfl, he⟩ := hrel
    have HE := Lib.hid he
    clear he
    by_cases hlt : k < n
    · obtain ⟨b, off, rfl, hc⟩ := hr.cells k hlt
      have HD := Lib.hid (List.drop_eq_getElem_cons (l := xs) (i := k) (by have := hr.len; omega))
      generalize hx : xs[k]'(by have := hr.len; omega) = x at hc HD
      have HX := Lib.hid hx
      clear hx
      unfold eI at hc
      go_wp2_with (go_at_call 130; refine (first1_any _ _).mono ?_; rintro e w' ⟨rfl, rfl⟩)
      · have hne : (x != 0) = true := by assumption
        go_ret
        refine ⟨⟨k, rfl, .inr ⟨k, rfl, by have := hr.len; omega, ?_⟩⟩, rfl⟩
        rw [← HE.out, HD.out, firstE, if_neg (by simpa using hne)]
        exact HX.out
      · have heq : (x != 0) = false := by assumption
        go_round
        case rel =>
          refine ⟨k + 1, by omega, by go_num, ?_⟩
          have h2 := HE.out
          rw [HD.out, firstE, if_pos (by simpa using heq)] at h2
          exact h2
        case measure => simp [intOf]; omega
    · go_wp2
      go_ret
      refine ⟨⟨_, rfl, .inl ⟨rfl, ?_⟩⟩, rfl⟩
      rw [← HE.out, List.drop_of_length_le (by have := hr.len; omega)]; rfl
theorem first_any (a : Option Addr) (n cap : Nat) (xs : List Int) (w : World) (hr : Reads w eI a n xs) :
    Calls Tryd.prog 108 #[.slice a n cap] w fun e w' => e = .returned (.int .i64 (firstE xs)) ∧ w = w' := by
  go_enter Tryd.func108, Tryd.ntmps108
  go_wp2_with fail
  refine (indexErr_any _ _ _ xs _ hr).mono ?_
  rintro e w' ⟨⟨i, rfl, hi⟩, rfl⟩
  rcases hi with ⟨rfl, h0⟩ | ⟨k, rfl, hk, hx⟩
  · have H0 := Lib.hid h0
    clear h0
    go_wp2
    go_ret
    exact ⟨ret_int H0.out.symm, rfl⟩
  · have hlt : k < n := by have := hr.len; omega
    obtain ⟨b, off, rfl, hc⟩ := hr.cells k hlt
    have HX := Lib.hid hx
    rw [hx] at hc
    unfold eI at hc
    clear hx
    have hsm := hr.small
    go_wp2
    go_ret
    exact ⟨rfl, rfl⟩

/-- configs.inside's predicate: does a number lie outside? -/
theorem inside1_any (x m : Int) (c : Nat) (w : World) (hc : w.cell? ⟨c, 0, none⟩ = some (.int .i64 m)) :
    Calls Tryd.prog 123 #[.int .i64 x, .pointer (some ⟨c, 0, none⟩)] w fun e w' => e = .returned (.bool (decide (x < 0 ∨ m ≤ x))) ∧ ∃ k, w' = w.drewN k := by
  by_cases h : x < 0
  · go_enter Tryd.func123, Tryd.ntmps123
    go_wp2
    go_ret
    exact ⟨ret_bool (by simp [h]), 0, rfl⟩
  · have h1 : decide (x < 0) = false := by simpa using h
    have h2 : 0 ≤ x := by omega
    go_enter Tryd.func123, Tryd.ntmps123
    go_wp2
    go_ret
    exact ⟨ret_bool (by simp), 0, rfl⟩
/-- slices.IndexFunc at ints, of that predicate. -/
theorem indexIns_any (a : Option Addr) (n cap : Nat) (xs : List Int) (m : Int) (c : Nat) (w : World) (hc0 : w.cell? ⟨c, 0, none⟩ = some (.int .i64 m)) (hr : Reads w eI a n xs) :
    Calls Tryd.prog 133 #[.slice a n cap, .func (.func 123) #[] #[.pointer (some ⟨c, 0, none⟩)]] w fun e w' => (∃ i : Int, e = .returned (.int .i64 i) ∧ (0 ≤ i ↔ ∃ x ∈ xs, x < 0 ∨ m ≤ x)) ∧ ∃ k, w' = w.drewN k := by
  have hsm := hr.small
  have hlen := Lib.hid hr.len
  go_enter Tryd.func133, Tryd.ntmps133
  go_wp2
  go_loopw [8] (fun i wr => ∃ k q : Nat, k ≤ n ∧ i = .int .i64 k ∧ (∀ x ∈ xs.take k, 0 ≤ x ∧ x < m) ∧ wr = w.drewN q) (fun i _ => n - (intOf i).toNat)
  case atStart => exact ⟨0, 0, Nat.zero_le _, rfl, by simp, rfl⟩
  case round =>
    obtain ⟨k, q, hk, rfl, he, rfl⟩ := hrel
    have HE := Lib.hid he
    clear he
    by_cases hlt : k < n
    · obtain ⟨b, off, rfl, hc⟩ := (hr.drawn q).cells k hlt
      have HT := Lib.hid (List.take_succ_eq_append_getElem (l := xs) (i := k) (by have := hr.len; omega))
      have HM := Lib.hid (List.getElem_mem (l := xs) (n := k) (by have := hr.len; omega))
      generalize hx : xs[k]'(by have := hr.len; omega) = x at hc HT HM
      clear hx
      unfold eI at hc
      have hcc : (w.drewN q).cell? ⟨c, 0, none⟩ = some (.int .i64 m) := hc0
      go_wp2_with (go_at_call 123; refine (inside1_any _ _ _ _ hcc).mono ?_; rintro e w' ⟨rfl, q2, rfl⟩)
      · have ht : x < 0 ∨ m ≤ x := by assumption
        go_ret
        refine ⟨⟨_, rfl, ?_⟩, _, rfl⟩
        constructor
        · intro _; exact ⟨x, HM.out, ht⟩
        · intro _; omega
      · have ht : 0 ≤ x ∧ x < m := by assumption
        go_roundw
        case rel =>
          refine ⟨k + 1, _, by omega, by go_num, ?_, rfl⟩
          intro y hy
          rw [HT.out] at hy
          rcases List.mem_append.1 hy with h | h
          · exact HE.out y h
          · rw [List.mem_singleton.1 h]; exact ht
        case measure => simp [intOf]; omega
    · go_wp2
      go_ret
      refine ⟨⟨_, rfl, ?_⟩, _, rfl⟩
      have := HE.out
      rw [List.take_of_length_le (by have := hr.len; omega)] at this
      constructor
      · intro h; omega
      · rintro ⟨x, hx, h⟩
        have := this x hx
        omega

def insideB (xs : List Int) (m : Int) : Bool := decide (∀ x ∈ xs, 0 ≤ x ∧ x < m)
theorem containsIns_any (a : Option Addr) (n cap : Nat) (xs : List Int) (m : Int) (c : Nat) (w : World) (hc0 : w.cell? ⟨c, 0, none⟩ = some (.int .i64 m)) (hr : Reads w eI a n xs) :
    Calls Tryd.prog 122 #[.slice a n cap, .func (.func 123) #[] #[.pointer (some ⟨c, 0, none⟩)]] w fun e w' => e = .returned (.bool (!insideB xs m)) ∧ ∃ k, w' = w.drewN k := by
  go_enter Tryd.func122, Tryd.ntmps122
  go_wp2_with fail
  refine (indexIns_any _ _ _ xs m c _ hc0 hr).mono ?_
  rintro e w' ⟨⟨i, rfl, hi⟩, q, rfl⟩
  have HI := Lib.hid hi
  clear hi
  go_wp2
  go_ret
  refine ⟨ret_bool ?_, _, rfl⟩
  rw [Bool.eq_iff_iff]
  have := HI.out
  simp only [insideB, Bool.not_eq_true', decide_eq_true_eq, decide_eq_false_iff_not]
  rw [this]
  constructor
  · rintro ⟨x, hx, h⟩ hall
    have := hall x hx
    omega
  · intro h
    apply Classical.byContradiction
    intro hno
    apply h
    intro x hx
    apply Classical.byContradiction
    intro h2
    exact hno ⟨x, hx, by omega⟩
theorem inside_any (a : Option Addr) (n cap : Nat) (xs : List Int) (m : Int) (w : World) (hr : Reads w eI a n xs) :
    Calls Tryd.prog 100 #[.slice a n cap, .int .i64 m] w fun e w' => e = .returned (.bool (insideB xs m)) ∧ Below w.heap.size w w' := by
  have hb := (Below.refl w.heap.size w).alloc (Nat.le_refl _) (.cells #[.int .i64 m] 3)
  go_enter Tryd.func100, Tryd.ntmps100
  go_wp2_with fail
  refine (containsIns_any _ _ _ xs m _ _ (by simp [go_sem]) (hr.below hb)).mono ?_
  rintro e w' ⟨rfl, q, rfl⟩
  go_wp2
  go_ret
  exact ⟨ret_bool (by simp), below_drewN hb q⟩
end Go.Proofs.YtibncdkekceokaaDoor



