/- sennitlaw04.Great; sennitlaw01.SameNums, SameConfig of what is the same. -/
import Derived.Test.YtibncdkekceokaaDoorPConfigsNewx5
import Derived.Test.YtibncdkekceokaaDoorRefPairs
namespace Go.Proofs.YtibncdkekceokaaDoor
open Go.RowKit Go.Proofs.YtibncdkekceokaaDoorW.PrintWords Go.Proofs.YtibncdkekceokaaDoor.PConfigsNew

theorem sameNums_self (l : List Int) (hl : l.length ≤ 1000000) : ∀ d k (i : Nat), l.length - i = d → i ≤ l.length → d < k → sennitlaw01_SameNums.l0 k l l (i : Int) = some true := by
  intro d
  induction d with
  | zero =>
    intro k i h1 h2 h3
    obtain ⟨k, rfl⟩ : ∃ m, k = m + 1 := ⟨k - 1, by omega⟩
    simp only [sennitlaw01_SameNums.l0]
    rw [if_neg (by omega)]
  | succ d ih =>
    intro k i h1 h2 h3
    obtain ⟨k, rfl⟩ : ∃ m, k = m + 1 := ⟨k - 1, by omega⟩
    simp only [sennitlaw01_SameNums.l0]
    rw [if_pos (by omega), if_pos (by omega), if_pos (by omega), if_pos trivial, wrap_up i (by omega)]
    exact ih k (i + 1) (by omega) (by omega) (by omega)
theorem sameNums_f (l : List Int) (hl : l.length ≤ 1000000) (k : Nat) (hk : l.length < k) : sennitlaw01_SameNums.f k l l = some true := by
  unfold sennitlaw01_SameNums.f
  rw [if_pos rfl]
  exact sameNums_self l hl l.length k 0 (by omega) (by omega) hk
theorem sameSt_self (l : List S53) (hl : l.length ≤ 1000000) : ∀ d k (i : Nat), l.length - i = d → i ≤ l.length → d < k → sennitlaw01_SameStations.l0 k l l (i : Int) = some true := by
  intro d
  induction d with
  | zero =>
    intro k i h1 h2 h3
    obtain ⟨k, rfl⟩ : ∃ m, k = m + 1 := ⟨k - 1, by omega⟩
    simp only [sennitlaw01_SameStations.l0]
    rw [if_neg (by omega)]
  | succ d ih =>
    intro k i h1 h2 h3
    obtain ⟨k, rfl⟩ : ∃ m, k = m + 1 := ⟨k - 1, by omega⟩
    simp only [sennitlaw01_SameStations.l0]
    rw [if_pos (by omega), if_pos (by omega), if_pos (by omega), if_neg (by simp), wrap_up i (by omega)]
    exact ih k (i + 1) (by omega) (by omega) (by omega)
theorem sameSt_f (l : List S53) (hl : l.length ≤ 1000000) (k : Nat) (hk : l.length < k) : sennitlaw01_SameStations.f k l l = some true := by
  unfold sennitlaw01_SameStations.f
  rw [if_pos rfl]
  exact sameSt_self l hl l.length k 0 (by omega) (by omega) hk
/-- Two configs of the same numbers and lists are the same. -/
theorem sameconfig_any {nodes long miss good fresh : Int} {pa sa ba ta pa' sa' ba' ta' : Option Addr} {pn pc sn sc bn bc tn tc pc' sc' bc' tc' : Nat} (ps ss bs : List Int) (ts : List (Int × Int × Int)) (w : World) (hC : CfgIn w nodes long miss good fresh pa sa ba ta pn pc sn sc bn bc tn tc ps ss bs ts)
    (hD : CfgIn w nodes long miss good fresh pa' sa' ba' ta' pn pc' sn sc' bn bc' tn tc' ps ss bs ts) (hp : pn ≤ 1000000) (hs : sn ≤ 1000000) (hb : bn ≤ 1000000) (ht : tn ≤ 1000000) :
    Calls Tryd.prog 42 #[.agg #[.int .i64 nodes, .slice pa pn pc, .slice sa sn sc, .int .i64 long, .slice ba bn bc, .slice ta tn tc, .int .i64 miss, .int .i64 good, .int .i64 fresh], .agg #[.int .i64 nodes, .slice pa' pn pc', .slice sa' sn sc', .int .i64 long, .slice ba' bn bc', .slice ta' tn tc', .int .i64 miss, .int .i64 good, .int .i64 fresh]] w
      fun e w' => e = .returned (.bool true) ∧ Below w.heap.size w w' := by
  have e1 := hC.rp.len
  have e2 := hC.rs.len
  have e3 := hC.rb.len
  have e4 : (ts.map toS).length = tn := by rw [List.length_map]; exact hC.rt.len
  have h := sennitlaw01_SameConfig.calls 1000001 nodes pa pc ps sa sc ss long ba bc bs ta tc (ts.map toS) miss good fresh nodes pa' pc' ps sa' sc' ss long ba' bc' bs ta' tc' (ts.map toS) miss good fresh true w
    hC.rp.kd (by rw [e1]; exact hC.op.le) hC.rs.kd (by rw [e2]; exact hC.os.le) hC.rb.kd (by rw [e3]; exact hC.ob.le) hC.rt.kd (by rw [e4]; exact hC.ot.le)
    hD.rp.kd (by rw [e1]; exact hD.op.le) hD.rs.kd (by rw [e2]; exact hD.os.le) hD.rb.kd (by rw [e3]; exact hD.ob.le) hD.rt.kd (by rw [e4]; exact hD.ot.le) (by
      unfold sennitlaw01_SameConfig.f
      simp only [if_true]
      rw [sameNums_f ps (by omega) _ (by omega), sameNums_f ss (by omega) _ (by omega), sameNums_f bs (by omega) _ (by omega), sameSt_f _ (by omega) _ (by omega)]
      rfl)
  rw [e1, e2, e3, e4] at h
  exact h
theorem samenums_any {a a' : Option Addr} {n cap cap' : Nat} (xs : List Int) (w : World) (hr : Reads w eI a n xs) (hr' : Reads w eI a' n xs) (ho : SliceOK a n cap) (ho' : SliceOK a' n cap') (hn : n ≤ 1000000) :
    Calls Tryd.prog 80 #[.slice a n cap, .slice a' n cap'] w fun e w' => e = .returned (.bool true) ∧ Below w.heap.size w w' := by
  have e1 := hr.len
  have h := sennitlaw01_SameNums.calls 1000001 a cap xs a' cap' xs true w hr.kd (by rw [e1]; exact ho.le) hr'.kd (by rw [e1]; exact ho'.le) (sameNums_f xs (by omega) _ (by omega))
  rw [e1] at h
  exact h.mono fun e w' ⟨h1, h2⟩ => ⟨h1, by first | exact h2 | exact h2.below | (obtain ⟨k, rfl⟩ := h2.out; exact below_drawn w k)⟩
theorem great_any (nodes long miss good fresh : Int) (pa sa ba ta : Option Addr) (pn pc sn sc bn bc tn tc : Nat) (ps ss bs : List Int) (ts : List (Int × Int × Int)) (w : World) (hC : CfgIn w nodes long miss good fresh pa sa ba ta pn pc sn sc bn bc tn tc ps ss bs ts) :
    Calls Tryd.prog 30 #[.agg #[.int .i64 nodes, .slice pa pn pc, .slice sa sn sc, .int .i64 long, .slice ba bn bc, .slice ta tn tc, .int .i64 miss, .int .i64 good, .int .i64 fresh]] w fun e w' => e = .returned (.bool (decide (60 < pn ∨ 60 < sn ∨ 60 < bn ∨ 60 < tn))) ∧ Below w.heap.size w w' := by
  have e1 := hC.rp.len
  have e2 := hC.rs.len
  have e3 := hC.rb.len
  have e4 : (ts.map toS).length = tn := by rw [List.length_map]; exact hC.rt.len
  have h := sennitlaw04_Great.calls nodes pa pc ps sa sc ss long ba bc bs ta tc (ts.map toS) miss good fresh (decide (60 < pn ∨ 60 < sn ∨ 60 < bn ∨ 60 < tn)) w
    hC.rp.kd (by rw [e1]; exact hC.op.le) hC.rs.kd (by rw [e2]; exact hC.os.le) hC.rb.kd (by rw [e3]; exact hC.ob.le) hC.rt.kd (by rw [e4]; exact hC.ot.le) (by
      unfold sennitlaw04_Great.f
      rw [e1, e2, e3, e4]
      split
      · congr 1; symm; exact decide_eq_true (by omega)
      · split
        · congr 1; symm; exact decide_eq_true (by omega)
        · split
          · congr 1; symm; exact decide_eq_true (by omega)
          · congr 1; rw [Bool.eq_iff_iff, decide_eq_true_eq, decide_eq_true_eq]; omega)
  rw [e1, e2, e3, e4] at h
  exact h
end Go.Proofs.YtibncdkekceokaaDoor
