/- Layer 10's reference: a window, a tick, the guards, when all is over: as the net's own. -/
import Derived.Test.YtibncdkekceokaaDoorPWindowsOfx7
import Derived.Test.YtibncdkekceokaaDoorWindowsGuards
namespace Go.Proofs.YtibncdkekceokaaDoor
open Go.RowKit Go.Proofs.YtibncdkekceokaaDoorW.PrintWords Go.Proofs.YtibncdkekceokaaDoorW.PrintMore

def toSw (s : Int × Int × Int) : PWindowsOf.S53 := ⟨s.1, s.2.1, s.2.2⟩
theorem ReadsSt.kdw {w : World} {a : Option Addr} {n : Nat} {xs : List (Int × Int × Int)} (h : ReadsSt w a n xs) : Kd.C PWindowsOf.k53 w a (xs.map toSw).length (xs.map toSw) := by
  have hl := h.len
  subst hl
  refine ⟨rfl, by simpa using h.small, fun h0 => ?_⟩
  rw [List.length_map] at h0
  obtain ⟨b, off, ha, _⟩ := h.cells 0 h0
  refine ⟨_, ha, fun j p hj => ?_⟩
  rw [List.getElem?_map] at hj
  have hj1 : j < xs.length := by
    apply Classical.byContradiction
    intro hn
    rw [List.getElem?_eq_none (by omega)] at hj
    cases hj
  rw [List.getElem?_eq_getElem hj1] at hj
  obtain rfl : toSw xs[j] = p := by simpa using hj
  refine ⟨_, rfl, PWindowsOf.k53_mk w _, fun i u hu => ?_⟩
  obtain ⟨b', off', ha', c0, c1, c2⟩ := h.cells j hj1
  rw [ha] at ha'
  injection ha' with ha'
  injection ha' with e1 e2
  subst e1 e2
  have e : ∀ i, (⟨b, off, none⟩ : Addr).add (j * PWindowsOf.k53.sz + i) = ⟨b, off + j * 3 + i, none⟩ := fun i => by
    have : PWindowsOf.k53.sz = 3 := rfl
    rw [this]
    unfold Addr.add
    split
    · simp_all
    · simp [Nat.add_assoc]
  rw [e]
  rcases i with _ | _ | _ | i
  · simp only [List.getElem?_cons_zero, Option.some.injEq] at hu
    subst hu; exact c0
  · simp only [List.getElem?_cons_succ, List.getElem?_cons_zero, Option.some.injEq] at hu
    subst hu; exact c1
  · simp only [List.getElem?_cons_succ, List.getElem?_cons_zero, Option.some.injEq] at hu
    subst hu; exact c2
  · simp at hu


section
open PWindowsOf
/-- How many steps from a node to another one. -/
def stG (n d a b : Int) : Int := if d = 0 then (if a ≤ b then b - a else b - a + n) else if b ≤ a then a - b else a - b + n
theorem is_f (n d : Int) (h4 : 4 ≤ n) (h16 : n ≤ 16) (hd : d = 0 ∨ d = 1) : sennitref03_Is.f n d = some true := by
  unfold sennitref03_Is.f
  rw [if_pos (by omega), if_pos (by omega), decide_eq_true (by omega)]
theorem next_f (n d i : Int) (h4 : 4 ≤ n) (h16 : n ≤ 16) (i0 : 0 ≤ i) (i1 : i < n) : sennitref03_next.f n d i = some (if d = 0 then (if i = n - 1 then 0 else i + 1) else (if i = 0 then n - 1 else i - 1)) := by
  unfold sennitref03_next.f
  have e1 : wrap64 (n - 1) = n - 1 := by unfold wrap64; omega
  have e2 : wrap64 (i + 1) = i + 1 := by unfold wrap64; omega
  have e3 : wrap64 (i - 1) = i - 1 := by unfold wrap64; omega
  rw [e1, e2, e3]
  by_cases h : d = 0
  · rw [if_pos h, if_pos h]
    split <;> rfl
  · rw [if_neg h, if_neg h]
    split <;> rfl
theorem dist_l0 {n d b : Int} (h4 : 4 ≤ n) (h16 : n ≤ 16) (hd : d = 0 ∨ d = 1) (b0 : 0 ≤ b) (b1 : b < n) : ∀ (m k : Nat) (a x : Int), stG n d a b = m → m < k → 0 ≤ a → a < n → 0 ≤ x → x + m ≤ 1000 → sennitref03_Distance.l0 k n d a b x = some (x + m) := by
  intro m
  induction m with
  | zero =>
    intro k a x hm hk a0 a1 x0 x1
    obtain ⟨k, rfl⟩ : ∃ k', k = k' + 1 := ⟨k - 1, by omega⟩
    have e : a = b := by
      unfold stG at hm
      revert hm
      (repeat' split) <;> omega
    rw [sennitref03_Distance.l0, if_pos e]
    simp
  | succ m ih =>
    intro k a x hm hk a0 a1 x0 x1
    obtain ⟨k, rfl⟩ : ∃ k', k = k' + 1 := ⟨k - 1, by omega⟩
    have e : a ≠ b := by
      intro e
      unfold stG at hm
      revert hm
      (repeat' split) <;> omega
    have ew : wrap64 (x + 1) = x + 1 := by unfold wrap64; omega
    rw [sennitref03_Distance.l0, if_neg e, next_f n d a h4 h16 a0 a1, Option.bind_some, ew]
    obtain ⟨c, hc⟩ : ∃ c, c = (if d = 0 then (if a = n - 1 then 0 else a + 1) else (if a = 0 then n - 1 else a - 1)) := ⟨_, rfl⟩
    rw [← hc]
    have hs : stG n d c b = m ∧ 0 ≤ c ∧ c < n := by
      unfold stG at hm ⊢
      revert hm hc
      rcases hd with rfl | rfl
      · simp only [if_true]
        (repeat' split) <;> omega
      · simp only [show ¬ (1 : Int) = 0 by omega, if_false]
        (repeat' split) <;> omega
    rw [ih k c (x + 1) hs.1 (by omega) hs.2.1 hs.2.2 (by omega) (by omega)]
    congr 1; omega
theorem stG_in {n d a b : Int} (a0 : 0 ≤ a) (a1 : a < n) (b0 : 0 ≤ b) (b1 : b < n) : 0 ≤ stG n d a b ∧ stG n d a b < n := by
  unfold stG; (repeat' split) <;> omega
theorem dist_f {n d a b : Int} (k : Nat) (hk : 18 ≤ k) (h4 : 4 ≤ n) (h16 : n ≤ 16) (hd : d = 0 ∨ d = 1) (a0 : 0 ≤ a) (a1 : a < n) (b0 : 0 ≤ b) (b1 : b < n) : sennitref03_Distance.f k n d a b = some (stG n d a b) := by
  obtain ⟨k, rfl⟩ : ∃ k', k = k' + 1 := ⟨k - 1, by omega⟩
  have hs := stG_in (d := d) a0 a1 b0 b1
  unfold sennitref03_Distance.f
  rw [is_f n d h4 h16 hd, Option.bind_some, if_pos rfl, if_neg (by omega), if_neg (by omega), if_neg (by omega), decide_eq_false (show ¬ b ≥ n by omega), sennitref03_Distance.j0, if_neg (by simp),
    dist_l0 h4 h16 hd b0 b1 (stG n d a b).toNat k a 0 (by omega) (by omega) a0 a1 (by omega) (by omega)]
  congr 1; omega
theorem place_f {n d a b : Int} (k : Nat) (hk : 19 ≤ k) (h4 : 4 ≤ n) (h16 : n ≤ 16) (hd : d = 0 ∨ d = 1) (a0 : 0 ≤ a) (a1 : a < n) (b0 : 0 ≤ b) (b1 : b < n) : sennitref03_Place.f k n d a b = some (plG n d a b) := by
  obtain ⟨k, rfl⟩ : ∃ k', k = k' + 1 := ⟨k - 1, by omega⟩
  unfold sennitref03_Place.f
  rw [is_f n d h4 h16 hd, Option.bind_some, if_pos rfl, if_neg (by omega), decide_eq_false (show ¬ a ≥ n by omega), sennitref03_Place.j0, if_neg (by simp)]
  rcases hd with rfl | rfl
  · rw [if_neg (by omega), dist_f k (by omega) h4 h16 (.inl rfl) a0 a1 b0 b1, Option.bind_some]
    rfl
  · rw [if_pos rfl, next_f n 0 a h4 h16 a0 a1, Option.bind_some, if_pos rfl]
    obtain ⟨c, hc⟩ : ∃ c, c = (if a = n - 1 then 0 else a + 1) := ⟨_, rfl⟩
    rw [← hc]
    have hcb : 0 ≤ c ∧ c < n := by revert hc; split <;> omega
    rw [dist_f k (by omega) h4 h16 (.inr rfl) hcb.1 hcb.2 b0 b1, Option.bind_some]
    congr 1
    unfold stG plG
    revert hc
    simp only [show ¬ (1 : Int) = 0 by omega, if_false]
    (repeat' split) <;> omega
variable (n : Int) (ps ss : List Int) (a3 : Int) (bs : List Int) (ts : List S53) (a6 a7 a8 : Int)
theorem of_good (k : Nat) (hk : 20 ≤ k) {d : Int} (h4 : 4 ≤ n) (h16 : n ≤ 16) (hd : d = 0 ∨ d = 1) (p : Nat) (hp : p < ps.length) (a0 : 0 ≤ ps.getD p 0) (a1 : ps.getD p 0 < n) (i : Int) (i0 : 0 ≤ i) (i1 : i < n) :
    sennitref10_Of.f k n ps ss a3 bs ts a6 a7 a8 d p i = some (roleF (plG n d (ps.getD p 0) i), plG n d (ps.getD p 0) i, 1 + plG n d (ps.getD p 0) i, 1 + plG n d (ps.getD p 0) i + 114, 0) := by
  obtain ⟨k, rfl⟩ : ∃ k', k = k' + 1 := ⟨k - 1, by omega⟩
  unfold sennitref10_Of.f
  have hrd : rd ps (p : Int) = ps.getD p 0 := by
    have e : ps.getD p 0 = ps[p] := by rw [List.getD_eq_getElem?_getD, List.getElem?_eq_getElem hp]; rfl
    rw [e]; exact rd_at ps p hp
  have hq := plG_in (d := d) a0 a1 i0 i1
  rw [if_neg (by omega), if_neg (by omega), if_neg (by omega), if_neg (by omega), decide_eq_false (show ¬ i ≥ n by omega), sennitref10_Of.j0, if_neg (by simp), if_pos (by omega), if_pos (by omega), hrd, place_f k (by omega) h4 h16 hd a0 a1 i0 i1, Option.bind_some]
  generalize plG n d (ps.getD p 0) i = q at hq ⊢
  have e1 : wrap64 (1 + q) = 1 + q := by unfold wrap64; omega
  have e2 : wrap64 (1 + q + 114) = 1 + q + 114 := by unfold wrap64; omega
  rw [e1, e2]
  unfold roleF
  by_cases h2 : q < 2
  · rw [if_pos h2, if_neg (by omega), if_pos h2]
  · rw [if_neg h2, if_neg h2]
    by_cases h3 : q = 2
    · rw [if_pos h3, if_pos h3]
    · rw [if_neg h3, if_neg h3]
theorem of_bad (k : Nat) (hk : 20 ≤ k) {d o i : Int} (hb : ¬ (d ≤ 1 ∧ 0 ≤ o ∧ o < ps.length ∧ 0 ≤ i ∧ i < n)) :
    sennitref10_Of.f k n ps ss a3 bs ts a6 a7 a8 d o i = some (0, 0, 0, 0, 1) := by
  obtain ⟨k, rfl⟩ : ∃ k', k = k' + 1 := ⟨k - 1, by omega⟩
  unfold sennitref10_Of.f
  have hj : ∀ x, x = true → sennitref10_Of.j0 (k + 1) d o i x n ps ss a3 bs ts a6 a7 a8 = some (0, 0, 0, 0, 1) := fun x hx => by rw [sennitref10_Of.j0, if_pos hx]
  (repeat' split) <;> first | exact hj _ rfl | exact hj _ (decide_eq_true (by omega))
theorem at_l0 {r p b e x : Int} (b0 : 0 ≤ b) (e1 : e ≤ 1000) (be : b ≤ e) : ∀ (m k : Nat) (i : Int), e - b - i = m → m < k → 0 ≤ i → sennitref10_At.l0 k x i r p b e = some (if b + i ≤ x ∧ x < e then (x - b, true) else (0, false)) := by
  intro m
  induction m with
  | zero =>
    intro k i hm hk i0
    obtain ⟨k, rfl⟩ : ∃ k', k = k' + 1 := ⟨k - 1, by omega⟩
    have ew : wrap64 (e - b) = e - b := by unfold wrap64; omega
    rw [sennitref10_At.l0, ew, if_neg (by omega), if_neg (by omega)]
  | succ m ih =>
    intro k i hm hk i0
    obtain ⟨k, rfl⟩ : ∃ k', k = k' + 1 := ⟨k - 1, by omega⟩
    have ew : wrap64 (e - b) = e - b := by unfold wrap64; omega
    have ei : wrap64 (b + i) = b + i := by unfold wrap64; omega
    have ej : wrap64 (i + 1) = i + 1 := by unfold wrap64; omega
    rw [sennitref10_At.l0, ew, ei, ej, if_pos (by omega)]
    by_cases h : b + i = x
    · rw [if_pos h, if_pos (by omega)]
      congr 2; omega
    · rw [if_neg h, ih k (i + 1) (by omega) (by omega) (by omega)]
      by_cases h2 : b + i ≤ x ∧ x < e
      · rw [if_pos h2, if_pos (by omega)]
      · rw [if_neg h2, if_neg (by omega)]
theorem refat_f {r p b e x : Int} (b0 : 0 ≤ b) (e1 : e ≤ 1000) (be : b ≤ e) : sennitref10_At.f 1001 r p b e x = some (tickF b e x, openB b e x) := by
  unfold sennitref10_At.f
  rw [at_l0 b0 e1 be (e - b).toNat 1001 0 (by omega) (by omega) (by omega)]
  unfold tickF openB
  by_cases h : b ≤ x ∧ x < e
  · rw [if_pos (by omega), if_pos h, decide_eq_true h]
  · rw [if_neg (by omega), if_neg h, decide_eq_false h]
theorem over_l1 {d : Int} (h4 : 4 ≤ n) (h16 : n ≤ 16) (hd : d = 0 ∨ d = 1) (hp : 0 < ps.length) (a0 : 0 ≤ ps.getD 0 0) (a1 : ps.getD 0 0 < n) : ∀ (m k i : Nat) (x : Int), (n - i : Int) = m → m + 21 ≤ k → (x = lastF n d (ps.getD 0 0) i ∨ x = n + 114) →
    ∃ k', k ≤ k' + m + 1 ∧ k' < k ∧ sennitref10_Over.l1 k x d i n ps ss a3 bs ts a6 a7 a8 = sennitref10_Over.l0 k' (n + 114) ((d + 1) % 256) n ps ss a3 bs ts a6 a7 a8 := by
  intro m
  induction m with
  | zero =>
    intro k i x hm hk hx
    obtain ⟨k, rfl⟩ : ∃ k', k = k' + 1 := ⟨k - 1, by omega⟩
    refine ⟨k, by omega, by omega, ?_⟩
    rw [sennitref10_Over.l1, if_neg (by omega)]
    have : x = n + 114 := by
      rcases hx with rfl | h
      · have := lastF_all hd h4 a0 a1
        rw [show n.toNat = i by omega] at this
        exact this
      · exact h
    rw [this]
  | succ m ih =>
    intro k i x hm hk hx
    obtain ⟨k, rfl⟩ : ∃ k', k = k' + 1 := ⟨k - 1, by omega⟩
    have hi : (i : Int) < n := by omega
    have hq := plG_in (d := d) a0 a1 (show (0 : Int) ≤ i by omega) hi
    have hle := lastF_le (d := d) a0 a1 i (by omega)
    have ew : wrap64 ((i : Int) + 1) = ((i + 1 : Nat) : Int) := by unfold wrap64; omega
    have hof := of_good n ps ss a3 bs ts a6 a7 a8 k (by omega) h4 h16 hd 0 hp a0 a1 (i : Int) (by omega) hi
    rw [show ((0 : Nat) : Int) = 0 from rfl] at hof
    rw [sennitref10_Over.l1, if_pos hi, hof, Option.bind_some, ew]
    obtain ⟨k', g1, g2, g3⟩ := ih k (i + 1) (mx x (1 + plG n d (ps.getD 0 0) i + 114)) (by omega) (by omega) (by
      rcases hx with rfl | rfl
      · left; simp only [lastF]; unfold mx; omega
      · right; unfold mx; omega)
    exact ⟨k', by omega, by omega, g3⟩
theorem over_f (h4 : 4 ≤ n) (h16 : n ≤ 16) (hp : 0 < ps.length) (a0 : 0 ≤ ps.getD 0 0) (a1 : ps.getD 0 0 < n) : sennitref10_Over.f 100 n ps ss a3 bs ts a6 a7 a8 = some (n + 114) := by
  unfold sennitref10_Over.f
  rw [sennitref10_Over.l0, if_pos (by omega)]
  obtain ⟨k1, g1, g2, g3⟩ := over_l1 n ps ss a3 bs ts a6 a7 a8 (d := 0) h4 h16 (.inl rfl) hp a0 a1 n.toNat 99 0 0 (by omega) (by omega) (.inl rfl)
  rw [show ((0 : Nat) : Int) = 0 from rfl] at g3
  rw [g3]
  obtain ⟨k1, rfl⟩ : ∃ k', k1 = k' + 1 := ⟨k1 - 1, by omega⟩
  rw [show ((0 : Int) + 1) % 256 = 1 from rfl, sennitref10_Over.l0, if_pos (by omega)]
  obtain ⟨k2, f1, f2, f3⟩ := over_l1 n ps ss a3 bs ts a6 a7 a8 (d := 1) h4 h16 (.inr rfl) hp a0 a1 n.toNat k1 0 (n + 114) (by omega) (by omega) (.inr rfl)
  rw [show ((0 : Nat) : Int) = 0 from rfl] at f3
  rw [f3]
  obtain ⟨k2, rfl⟩ : ∃ k', k2 = k' + 1 := ⟨k2 - 1, by omega⟩
  rw [show ((1 : Int) + 1) % 256 = 2 from rfl, sennitref10_Over.l0, if_neg (by omega)]
end
end Go.Proofs.YtibncdkekceokaaDoor
