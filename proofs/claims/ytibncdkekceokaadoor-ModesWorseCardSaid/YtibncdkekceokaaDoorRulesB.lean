/- configs.rules: those with a loop of their own. -/
import Derived.Test.YtibncdkekceokaaDoorRulesA
import Derived.Test.YtibncdkekceokaaDoorLib
namespace Go.Proofs.YtibncdkekceokaaDoor
open Go.RowKit

/-- Each slot is some pair's, each pair has one. -/
def slotsB (ss : List Int) (m : Nat) : Bool := insideB ss m && decide (∀ p : Nat, p < m → (p : Int) ∈ ss)
theorem slots_succ (ss : List Int) (m k : Nat) : (insideB ss m && decide (∀ p : Nat, p < k + 1 → (p : Int) ∈ ss)) = ((insideB ss m && decide (∀ p : Nat, p < k → (p : Int) ∈ ss)) && decide ((k : Int) ∈ ss)) := by
  rw [Bool.and_assoc]
  congr 1
  rw [Bool.eq_iff_iff]
  simp only [Bool.and_eq_true, decide_eq_true_eq]
  constructor
  · intro h; exact ⟨fun p hp => h p (by omega), h k (by omega)⟩
  · rintro ⟨h1, h2⟩ p hp
    by_cases e : p = k
    · subst e; exact h2
    · exact h1 p (by omega)
set_option maxHeartbeats 1000000 in
theorem rule5_any (nodes long miss good fresh : Int) (pa sa ba ta : Option Addr) (pn pc sn sc bn bc tn tc : Nat) (ss : List Int) (w : World) (hr : Reads w eI sa sn ss) (hpn : pn ≤ 1000000) :
    Calls Tryd.prog 104 #[.agg #[.int .i64 nodes, .slice pa pn pc, .slice sa sn sc, .int .i64 long, .slice ba bn bc, .slice ta tn tc, .int .i64 miss, .int .i64 good, .int .i64 fresh]] w fun e w' => e = .returned (.int .i64 (mustE (slotsB ss pn))) ∧ Below w.heap.size w w' := by
  have hb := (Below.refl w.heap.size w).alloc (Nat.le_refl _) (.cells #[.int .i64 nodes, .slice pa pn pc, .slice sa sn sc, .int .i64 long, .slice ba bn bc, .slice ta tn tc, .int .i64 miss, .int .i64 good, .int .i64 fresh] 25)
  go_enter Tryd.func104, Tryd.ntmps104
  go_wp2_with fail
  refine (inside_any _ _ _ ss _ _ (hr.below hb)).mono ?_
  rintro e w1 ⟨rfl, hb1⟩
  simp only [World.size_alloc] at hb1
  have c1 : w1.cell? ⟨w.heap.size, 1, none⟩ = some (.slice pa pn pc) := (hb1.cell (p := ⟨w.heap.size, 1, none⟩) (by simp)).trans (by simp [go_sem])
  have c2 : w1.cell? ⟨w.heap.size, 2, none⟩ = some (.slice sa sn sc) := (hb1.cell (p := ⟨w.heap.size, 2, none⟩) (by simp)).trans (by simp [go_sem])
  have hbb : Below w.heap.size w w1 := hb.trans (hb1.mono (by omega))
  have hr1 := hr.below hbb
  have HB := Lib.hid hbb
  clear hb hb1 hbb hr
  go_wp2
  go_loop [3, 14] (fun f i => ∃ (k : Nat) (g : Bool), k ≤ pn ∧ i = .int .i64 k ∧ f = .bool g ∧ g = (insideB ss pn && decide (∀ p : Nat, p < k → (p : Int) ∈ ss))) (fun _ i => pn - (intOf i).toNat)
  case atStart => exact ⟨0, _, Nat.zero_le _, rfl, rfl, by simp⟩
  case round =>
    obtain ⟨k, g, hk, rfl, rfl, hg⟩ := hrel
    have HG := Lib.hid hg
    have HS := Lib.hid (slots_succ ss pn k)
    clear hg
    by_cases hlt : k < pn
    · cases g
      · go_wp2
        go_round
        case rel => exact ⟨k + 1, false, by omega, by go_num, rfl, by rw [HS.out, ← HG.out]; rfl⟩
        case measure => simp [intOf]; omega
      · go_wp2_with (go_at_call 105; refine (contains_any _ _ _ ss _ _ hr1).mono ?_; rintro e w' ⟨rfl, rfl⟩)
        go_round
        case rel => exact ⟨k + 1, _, by omega, by go_num, rfl, by rw [HS.out, ← HG.out]; rfl⟩
        case measure => simp [intOf]; omega
    · go_wp2_with (go_at_call 99; refine (must_any _ _).mono ?_; rintro e w' ⟨rfl, rfl⟩)
      go_ret
      have e : k = pn := by omega
      subst e
      exact ⟨ret_int (by rw [HG.out]; rfl), HB.out⟩

/-- What is wrong with a station. -/
def stationE (n : Int) (s : Int × Int × Int) : Int := firstE [mustE (decide (0 ≤ s.1 ∧ s.1 < n)), withinE s.2.2 1 100]
def stationsE (n : Int) : List (Int × Int × Int) → Int
  | [] => 0
  | s :: r => if stationE n s = 0 then stationsE n r else stationE n s
set_option maxHeartbeats 2000000 in
set_option maxRecDepth 100000 in
theorem rule9_any (nodes long miss good fresh : Int) (pa sa ba ta : Option Addr) (pn pc sn sc bn bc tn tc : Nat) (ts : List (Int × Int × Int)) (w : World) (hr : ReadsSt w ta tn ts) :
    Calls Tryd.prog 111 #[.agg #[.int .i64 nodes, .slice pa pn pc, .slice sa sn sc, .int .i64 long, .slice ba bn bc, .slice ta tn tc, .int .i64 miss, .int .i64 good, .int .i64 fresh]] w fun e w' => e = .returned (.int .i64 (stationsE nodes ts)) ∧ Below w.heap.size w w' := by
  have hb := (Below.refl w.heap.size w).alloc (Nat.le_refl _) (.cells #[.int .i64 nodes, .slice pa pn pc, .slice sa sn sc, .int .i64 long, .slice ba bn bc, .slice ta tn tc, .int .i64 miss, .int .i64 good, .int .i64 fresh] 25)
  have hsm := hr.small
  have hlen := Lib.hid hr.len
  go_enter Tryd.func111, Tryd.ntmps111
  go_wp2
  go_loopw [9] (fun i wr => ∃ k : Nat, k ≤ tn ∧ i = .int .i64 k ∧ stationsE nodes (ts.drop k) = stationsE nodes ts ∧ wr.cell? ⟨w.heap.size, 0, none⟩ = some (.int .i64 nodes) ∧ w.heap.size + 1 ≤ wr.heap.size ∧ Below w.heap.size w wr) (fun i _ => tn - (intOf i).toNat)
  case atStart => exact ⟨0, Nat.zero_le _, rfl, rfl, by simp [go_sem], by simp, hb⟩
  case round =>
    obtain ⟨k, hk, rfl, he, hcn, hsz, hbl⟩ := hrel
    have HE := Lib.hid he
    clear he hb
    by_cases hlt : k < tn
    · obtain ⟨b, off, rfl, h0, h1, h2⟩ := (hr.below hbl).cells k hlt
      have HD := Lib.hid (List.drop_eq_getElem_cons (l := ts) (i := k) (by have := hr.len; omega))
      generalize hx : ts[k]'(by have := hr.len; omega) = x at h0 h1 h2 HD
      clear hx
      obtain ⟨nd, sf, ho⟩ := x
      simp only at h0 h1 h2
      have hsb : Below w.heap.size w (wr.alloc (.cells #[.int .i64 nd, .int .u32 sf, .int .i64 ho] 53)) := hbl.alloc (by omega) _
      by_cases hnd : 0 ≤ nd
      · have hnd1 : decide (0 ≤ nd) = true := by simpa using hnd
        go_wp2
        go_region_held3 (fun W => W.cell? ⟨w.heap.size, 0, none⟩ = some (.int .i64 nodes) ∧ W.cell? ⟨wr.heap.size, 0, none⟩ = some (.int .i64 nd) ∧ W.cell? ⟨wr.heap.size, 2, none⟩ = some (.int .i64 ho) ∧ Below w.heap.size w W) (refine ⟨?_, ?_, ?_, ?_⟩ <;> first | (go_keep; done) | exact hsb.drew | exact (hsb.alloc (by simp; omega) _).drew | fail)
          (first | (go_at_call 99; refine (must_any _ _).mono ?_; rintro e w' ⟨rfl, rfl⟩) | (go_at_call 96; refine (within_any _ _ _ _).mono ?_; rintro e w' ⟨rfl, rfl⟩) | (go_at_call 108; refine (first_any _ _ _ [mustE (decide (nd < nodes)), withinE ho 1 100] _ ?_).mono ?_; (exact Reads.drew (reads_new _ _ _ _ (by simp) _ rfl rfl (by simp))); rintro e w' ⟨rfl, rfl⟩) | fail)
        have ES := Lib.hid (show stationE nodes (nd, sf, ho) = firstE [mustE (decide (nd < nodes)), withinE ho 1 100] by simp [stationE, hnd])
        go_wp2
        · have hne : (firstE [mustE (decide (nd < nodes)), withinE ho 1 100] != 0) = true := by assumption
          go_ret
          refine ⟨ret_int ?_, (hsb.alloc (by simp; omega) _).drew⟩
          rw [← HE.out, HD.out, stationsE, ES.out, if_neg (by simpa using hne)]
        · have heq : (firstE [mustE (decide (nd < nodes)), withinE ho 1 100] != 0) = false := by assumption
          go_roundw
          case rel =>
            refine ⟨k + 1, by omega, by go_num, ?_, by go_keep, by simp; omega, (hsb.alloc (by simp; omega) _).drew⟩
            have h3 := HE.out
            rw [HD.out, stationsE, ES.out, if_pos (by simpa using heq)] at h3
            exact h3
          case measure => simp [intOf]; omega
      · have hnd2 : nd < 0 := by omega
        have hnd1 : decide (0 ≤ nd) = false := by simpa using hnd
        clear hnd
        go_wp2
        obtain ⟨W2, hW2⟩ : ∃ W2, W2 = (wr.alloc (.cells #[.int .i64 nd, .int .u32 sf, .int .i64 ho] 53)).drew := ⟨_, rfl⟩
        have q0 : W2.cell? ⟨wr.heap.size, 0, none⟩ = some (.int .i64 nd) := by rw [hW2]; go_keep
        have q2 : W2.cell? ⟨wr.heap.size, 2, none⟩ = some (.int .i64 ho) := by rw [hW2]; go_keep
        have q3 : W2.cell? ⟨w.heap.size, 0, none⟩ = some (.int .i64 nodes) := by rw [hW2]; go_keep
        have q4 : wr.heap.size + 1 = W2.heap.size := by rw [hW2]; simp
        have hsb2 : Below w.heap.size w W2 := by rw [hW2]; exact hsb.drew
        refine wp_region_still_tail 14 (by kernel_rfl) (by kernel_rfl) ?_
        change wpStill _ _ (wr.alloc (.cells #[.int .i64 nd, .int .u32 sf, .int .i64 ho] 53)).drew (fun a' => wpList _ _ _ _ a' (wr.alloc (.cells #[.int .i64 nd, .int .u32 sf, .int .i64 ho] 53)).drew) _ _
        rw [← hW2]
        have Q4 := Lib.hid q4
        clear hW2 q4
        simp only [List.take_succ_cons, List.take_zero, List.drop_succ_cons, List.drop_zero]
        repeat still_step
        still_call (still_eq (must_any _ _))
        repeat still_step
        still_call (still_eq (within_any _ _ _ _))
        repeat still_step
        refine wpStill_nil ?_
        have hsbA : ∀ o, Below w.heap.size w (W2.alloc o) := fun o => hsb2.alloc (by have := Q4.out; omega) o
        have q3A : ∀ o, (W2.alloc o).cell? ⟨w.heap.size, 0, none⟩ = some (.int .i64 nodes) := fun o => by rw [World.cell?_alloc_some _ _ _ (by rw [q3]; rfl)]; exact q3
        have HA := Lib.hid hsbA
        have HC := Lib.hid q3A
        clear hsbA q3A
        have ES := Lib.hid (show stationE nodes (nd, sf, ho) = firstE [mustE false, withinE ho 1 100] by simp [stationE, show ¬ 0 ≤ nd by omega])
        go_wp2_with (go_at_call 108; refine (first_any _ _ _ [mustE false, withinE ho 1 100] _ ?_).mono ?_; (exact reads_new _ _ _ _ rfl _ rfl rfl (by simp)); rintro e w' ⟨rfl, rfl⟩)
        · go_ret
          refine ⟨ret_int ?_, HA.out _⟩
          rw [← HE.out, HD.out, stationsE, ES.out, if_neg (by simp [firstE, mustE])]
    · go_wp2
      go_ret
      exact ⟨ret_int (by rw [← HE.out, List.drop_of_length_le (by have := hr.len; omega)]; rfl), hbl⟩
end Go.Proofs.YtibncdkekceokaaDoor
