/- sennitlaw04.ConfigsTurned: the walk. -/
import Derived.Test.YtibncdkekceokaaDoorTurnH
namespace Go.Proofs.YtibncdkekceokaaDoor
open Go.RowKit

attribute [local go_sem ↓ high] cfgLoad_eq
theorem run_cfgLoad_newT (w : World) (cs : Array Value) (hs : cs.size = 9) : (cfgLoad (.pointer (some ⟨w.heap.size, 0, none⟩))).run Tryd.prog (w.alloc (.cells cs 25)) = .ok (.agg cs) (w.alloc (.cells cs 25)) := run_cfgLoad _ _ _ (heap_new _ _ _ rfl) hs
attribute [local go_sem high] run_cfgLoad run_cfgLoad_newT
set_option maxRecDepth 100000 in
set_option maxHeartbeats 8000000 in
theorem configsTurned_walk (nodes long miss good fresh : Int) (pa sa ba ta : Option Addr) (pn pc sn sc bn bc tn tc : Nat) (ps ss bs : List Int) (ts : List (Int × Int × Int)) (by_ : Nat) (hby : by_ ≤ 255) (w : World) (hs : Signs w) (hC : CfgIn w nodes long miss good fresh pa sa ba ta pn pc sn sc bn bc tn tc ps ss bs ts) :
    Calls Tryd.prog 7 #[.agg #[.int .i64 nodes, .slice pa pn pc, .slice sa sn sc, .int .i64 long, .slice ba bn bc, .slice ta tn tc, .int .i64 miss, .int .i64 good, .int .i64 fresh], .int .u8 by_] w fun e w' => e = .returned (.bool true) ∧ Below w.heap.size w w' := by
  have hb0 := (Below.refl w.heap.size w).alloc (Nat.le_refl _) (.cells #[.int .i64 nodes, .slice pa pn pc, .slice sa sn sc, .int .i64 long, .slice ba bn bc, .slice ta tn tc, .int .i64 miss, .int .i64 good, .int .i64 fresh] 25)
  have r0 : (w.alloc (.cells #[.int .i64 nodes, .slice pa pn pc, .slice sa sn sc, .int .i64 long, .slice ba bn bc, .slice ta tn tc, .int .i64 miss, .int .i64 good, .int .i64 fresh] 25)).heap[w.heap.size]? = some (.cells #[.int .i64 nodes, .slice pa pn pc, .slice sa sn sc, .int .i64 long, .slice ba bn bc, .slice ta tn tc, .int .i64 miss, .int .i64 good, .int .i64 fresh] 25 (0, 0)) := heap_new _ _ _ rfl
  have hG := great_any nodes long miss good fresh pa sa ba ta pn pc sn sc bn bc tn tc ps ss bs ts _ (hC.below hb0)
  have HS := Lib.hid hs
  have HC := Lib.hid hC
  have HB0 := Lib.hid hb0
  have HR0 := Lib.hid r0
  clear hs hC hb0 r0
  go_enter Tryd.func7, Tryd.ntmps7
  go_wp2_with fail
  refine hG.mono ?_
  rintro e w1 ⟨rfl, hb1⟩
  have HB1 := Lib.hid (HB0.out.trans (hb1.mono (by simp)))
  have r1 : w1.heap[w.heap.size]? = some (.cells #[.int .i64 nodes, .slice pa pn pc, .slice sa sn sc, .int .i64 long, .slice ba bn bc, .slice ta tn tc, .int .i64 miss, .int .i64 good, .int .i64 fresh] 25 (0, 0)) := (hb1.block _ (by simp)).trans HR0.out
  have HR1 := Lib.hid r1
  have k0 : w1.cell? ⟨w.heap.size, 0, none⟩ = some (.int .i64 nodes) := heap_cell r1 0
  have k1 : w1.cell? ⟨w.heap.size, 1, none⟩ = some (.slice pa pn pc) := heap_cell r1 1
  clear hb1 hG r1
  have hl : ∀ q, Calls Tryd.prog 31 #[] (w1.drewN q) fun e w' => e = .returned (.bool true) ∧ Below w.heap.size w w' := fun q => (lives04_any _ (HS.out.below (below_drewN HB1.out q))).mono fun _ _ ⟨h1, h2⟩ => ⟨h1, (below_drewN HB1.out q).trans (h2.mono (below_drewN HB1.out q).size)⟩
  have HL := Lib.hid hl
  clear hl
  by_cases ok : ¬ (60 < pn ∨ 60 < sn ∨ 60 < bn ∨ 60 < tn) ∧ 4 ≤ nodes ∧ nodes ≤ 16 ∧ pn ≤ 8
  case neg =>
    have hl0 : Calls Tryd.prog 31 #[] w1 fun e w' => e = .returned (.bool true) ∧ Below w.heap.size w w' := HL.out 0
    by_cases big : 60 < pn ∨ 60 < sn ∨ 60 < bn ∨ 60 < tn
    · rw [decide_eq_true big]
      clear big ok
      go_wp2_with (go_at_call 31; refine (hl0).mono ?_; rintro e w' ⟨rfl, hbe⟩)
      go_ret
      exact ⟨rfl, hbe⟩
    · rw [decide_eq_false big]
      have hc : nodes < 4 ∨ (¬ nodes < 4 ∧ 16 < nodes) ∨ (¬ nodes < 4 ∧ ¬ 16 < nodes ∧ 8 < pn) := by omega
      clear big ok
      rcases hc with h | ⟨h, h2⟩ | ⟨h, h2, h3⟩
      all_goals
        go_wp2_with (go_at_call 31; refine (hl0).mono ?_; rintro e w' ⟨rfl, hbe⟩)
        go_ret
        exact ⟨rfl, hbe⟩
  obtain ⟨big, n4, n16, p8⟩ := ok
  rw [decide_eq_false big]
  go_wp2_with fail
  have hpl : ps.length = pn := HC.out.rp.len
  have HPL := Lib.hid hpl
  clear hpl
  go_loopw [5] (fun i wr => ∃ (k q : Nat), k ≤ pn ∧ i = .int .i64 k ∧ wr = w1.drewN q ∧ Hid (∀ j (hj : j < ps.length), j < k → 0 ≤ ps[j] ∧ ps[j] < nodes ∧ (0 < j → ps[j - 1]'(by omega) < ps[j]))) (fun i _ => pn - (intOf i).toNat)
  case atStart => exact ⟨0, 0, Nat.zero_le _, rfl, rfl, Lib.hid fun j _ h => by omega⟩
  case round =>
    obtain ⟨k, q, hk, rfl, rfl, HK⟩ := hrel
    by_cases hlt : k < pn
    · have hpr := HC.out.rp.below HB1.out
      obtain ⟨b, off, hpa, hc1⟩ := hpr.cells k hlt
      subst hpa
      have hkl : k < ps.length := by rw [HPL.out]; exact hlt
      obtain ⟨x, hx⟩ : ∃ x, x = ps[k] := ⟨_, rfl⟩
      rw [← hx] at hc1
      unfold eI at hc1
      have HX := Lib.hid hx
      clear hx
      by_cases x0 : x < 0
      · have d0 : decide (x < 0) = true := decide_eq_true x0
        go_wp2
        go_quiet (fail)
        go_wp2_with (go_at_call 31; refine (HL.out _).mono ?_; rintro e w' ⟨rfl, hbe⟩)
        go_ret
        exact ⟨rfl, hbe⟩
      · by_cases x1 : nodes ≤ x
        · have d0 : decide (x < 0) = false := decide_eq_false x0
          have d1 : decide (nodes ≤ x) = true := decide_eq_true x1
          go_wp2
          go_quiet (fail)
          go_wp2_with (go_at_call 31; refine (HL.out _).mono ?_; rintro e w' ⟨rfl, hbe⟩)
          go_ret
          exact ⟨rfl, hbe⟩
        · have d0 : decide (x < 0) = false := decide_eq_false x0
          have d1 : decide (nodes ≤ x) = false := decide_eq_false x1
          by_cases hk0 : k = 0
          · subst hk0
            rw [Nat.add_zero] at hc1
            go_wp2
            go_quiet (fail)
            go_wp2
            go_roundw
            case rel => exact ⟨0 + 1, _, by omega, by go_num, by first | rfl | exact World.drewN_drewN .., Lib.hid (fun j hj hjk => by
              by_cases e : j = 0
              · subst e
                rw [← HX.out]
                exact ⟨by omega, by omega, fun h => absurd h (by omega)⟩
              · exact HK.out j hj (by omega))⟩
            case measure => simp [intOf]; omega
          · obtain ⟨k', rfl⟩ : ∃ k', k = k' + 1 := ⟨k - 1, by omega⟩
            obtain ⟨b2, off2, hpa2, hc2⟩ := hpr.cells k' (by omega)
            cases hpa2
            obtain ⟨y, hy⟩ : ∃ y, y = ps[k'] := ⟨_, rfl⟩
            rw [← hy] at hc2
            unfold eI at hc2
            have HY := Lib.hid hy
            clear hy
            have kl : k' < pn := by omega
            by_cases xy : x ≤ y
            · have d2 : decide (x ≤ y) = true := decide_eq_true xy
              go_wp2
              go_quiet (fail)
              go_wp2_with (go_at_call 31; refine (HL.out _).mono ?_; rintro e w' ⟨rfl, hbe⟩)
              go_ret
              exact ⟨rfl, hbe⟩
            · have d2 : decide (x ≤ y) = false := decide_eq_false xy
              go_wp2
              go_quiet (fail)
              go_wp2
              go_roundw
              case rel => exact ⟨k' + 1 + 1, _, by omega, by go_num, by first | rfl | exact World.drewN_drewN .., Lib.hid (fun j hj hjk => by
                by_cases e : j = k' + 1
                · subst e
                  rw [← HX.out]
                  exact ⟨by omega, by omega, fun _ => by rw [show ps[k' + 1 - 1]'(by omega) = y from HY.out.symm]; omega⟩
                · exact HK.out j hj (by omega))⟩
              case measure => simp [intOf]; omega
    · have hkp : k = pn := by omega
      subst hkp
      have hin : ∀ x ∈ ps, 0 ≤ x ∧ x < nodes := fun x hx => by
        obtain ⟨j, hj, rfl⟩ := List.mem_iff_getElem.1 hx
        have := HK.out j hj (by have := HPL.out; omega)
        exact ⟨this.1, this.2.1⟩
      have hso : ps.Pairwise (· < ·) := lt_of_adj ps fun j hj h0 => (HK.out j hj (by have := HPL.out; omega)).2.2 h0
      have HIN := Lib.hid hin
      have HSO := Lib.hid hso
      clear hin hso HK hlt
      obtain ⟨st, hst, hstn⟩ : ∃ st : Nat, (by_ : Int).tmod nodes = st ∧ (st : Int) < nodes := ⟨(by_ % nodes).toNat, by rw [Int.tmod_eq_emod_of_nonneg (by omega)]; have := Int.emod_nonneg (by_ : Int) (show nodes ≠ 0 by omega); omega, by have := Int.emod_lt_of_pos (by_ : Int) (show 0 < nodes by omega); omega⟩
      have n0 : ¬ nodes = 0 := by omega
      have n0' : (nodes == 0) = false := by simpa using n0
      have hO : Own3 w1.heap.size w1 (w1.drewN q) (.slice none 0 0) (.slice none 0 0) (.slice none 0 0) [] [] [] := ⟨below_drewN (Below.refl _ _) q, by simp, OwnL.nil _ _, OwnL.nil _ _, OwnL.nil _ _, fun g h => by simp [Value.ownBlock] at h, fun g h => by simp [Value.ownBlock] at h, fun g h => by simp [Value.ownBlock] at h, fun _ => rfl, fun _ => rfl, fun _ => rfl⟩
      have HO := Lib.hid hO
      clear hO
      go_wp2_with fail
      first | go_quiet (fail) | skip
      go_wp2_with fail
      go_loopw [7, 9, 10] (fun v7 v9 i wr => ∃ j : Nat, j ≤ k ∧ i = .int .i64 j ∧ Hid (Own3 w1.heap.size w1 wr v7 (.slice none 0 0) v9 (lowF nodes st (ps.take j)) [] (lowO nodes st ps j))) (fun _ _ i _ => k - (intOf i).toNat)
      case atStart => exact ⟨0, Nat.zero_le _, rfl, HO⟩
      case round =>
        obtain ⟨j, hj, rfl, HW⟩ := hrel
        have z0 : wr.cell? ⟨w.heap.size, 0, none⟩ = some (.int .i64 nodes) := heap_cell ((HW.out.below.block _ (Array.getElem?_eq_some_iff.1 HR1.out).1).trans HR1.out) 0
        have z1 : wr.cell? ⟨w.heap.size, 1, none⟩ = some (.slice pa k pc) := heap_cell ((HW.out.below.block _ (Array.getElem?_eq_some_iff.1 HR1.out).1).trans HR1.out) 1
        by_cases hlt : j < k
        · have hpr := (HC.out.rp.below HB1.out).below HW.out.below
          obtain ⟨b, off, hpa, hc1⟩ := hpr.cells j hlt
          subst hpa
          have hjl : j < ps.length := by rw [HPL.out]; exact hlt
          have hrg := HIN.out ps[j] (List.getElem_mem _)
          have hL := lowF_succ nodes st ps j hjl
          have hO := lowO_succ nodes st ps j hjl
          generalize ps[j] = x at hc1 hrg hL hO
          unfold eI at hc1
          have HLF := Lib.hid hL
          have HLO := Lib.hid hO
          clear hL hO hpr
          have x0 := hrg.1
          have x1 := hrg.2
          have ws : wrap64 (x + st) = x + st := by unfold wrap64; omega
          by_cases hw : nodes ≤ x + st
          · have d1 : decide (nodes ≤ x + st) = true := decide_eq_true hw
            go_wp2
            go_quiet (fail)
            go_wp2_with fail
            obtain ⟨lo, hlo⟩ : ∃ lo, lo = lowF nodes st (ps.take j) := ⟨_, rfl⟩
            obtain ⟨od, hod⟩ : ∃ od, od = lowO nodes st ps j := ⟨_, rfl⟩
            rw [← hlo, ← hod] at HW
            have HLo := Lib.hid hlo
            have HOd := Lib.hid hod
            have e1 : lo.length ≤ 8 := by rw [hlo]; unfold lowF; rw [List.length_map]; exact Nat.le_trans (List.length_filter_le _ _) (by rw [List.length_take]; omega)
            have e2 : od.length ≤ 8 := by rw [hod]; unfold lowO; rw [List.length_map]; exact Nat.le_trans (List.length_filter_le _ _) (by rw [List.length_range]; omega)
            clear hlo hod
            have KEY : ∀ q : Nat, Hid (((wr.drewN q).alloc (.cells #[eI (x + st - nodes)] 3)).ownsRow w1.heap.size 3 1 u7 lo.length (lo.map eI)) := fun q => Lib.hid ((own_drewN HW.out.o7 q).alloc _)
            have KB : ∀ q : Nat, w1.heap.size ≤ ((wr.drewN q).alloc (.cells #[eI (x + st - nodes)] 3)).heap.size := fun q => by have := HW.out.base; simp; omega
            have KL : ∀ q : Nat, Hid (Own3 w1.heap.size w1 ((wr.drewN q).alloc (.cells #[eI (x + st - nodes)] 3)) u7 (.slice none 0 0) u9 lo [] od) := fun q => Lib.hid (HW.out.later ((below_drewN (Below.refl _ _) q).alloc (by simp) _))
            obtain ⟨i0, hi, hz0, hz1, hz2⟩ := info_parts info_intT
            have wr1 : IntKind.i64.wrap (x + (st : Int)) = x + st := by rw [IntKind.wrap_i64]; omega
            have wr2 : IntKind.i64.wrap (x + (st : Int) - nodes) = x + st - nodes := by rw [IntKind.wrap_i64]; omega
            go_region_law (refine step_append_lies _ rfl _ _ 22 rfl w1.heap.size 3 i0 (.int .i64 0) 1 8 Tryd.underlying22 hi hz0 hz1 hz2 rfl (by decide) _ _ _ rfl (KEY _).out ⟨wr.heap.size, 0, none⟩ 1 1 [eI (x + st - nodes)] rfl rfl (new_cells _ _ _ _ (by simp) _ rfl) (by intro u hu; simp at hu; rcases hu with rfl; rfl) (by omega) (by unfold maxLen; omega) (by omega) (KB _) _ rfl ?_; intro g cap V hown' hgrow hat hlt2; have HN := Lib.hid ((KL _).out.swap79.push9 _ hown' hgrow hat).swap79; clear hown' hgrow hat hlt2)
            all_goals
              have HA := Lib.hid (HN.out.later ((Below.refl V.heap.size V).alloc (Nat.le_refl _) (.cells #[eI (j : Int)] 3)))
              have kb : w1.heap.size ≤ (V.alloc (.cells #[eI (j : Int)] 3)).heap.size := HA.out.base
              go_wp2_with (at_builtin; refine wpList_append_lies _ rfl _ _ 22 rfl w1.heap.size 3 i0 (.int .i64 0) 1 8 Tryd.underlying22 hi hz0 hz1 hz2 rfl (by decide) _ _ _ rfl HA.out.o9 ⟨V.heap.size, 0, none⟩ 1 1 [eI (j : Int)] rfl rfl (new_cells _ _ _ _ rfl _ rfl) (by intro u hu; simp at hu; rcases hu with rfl; rfl) (by omega) (by unfold maxLen; omega) (by omega) kb _ rfl ?_)
              intro g2 cap2 V2 hown2 hgrow2 hat2 hlt2
              have HZ := Lib.hid (HA.out.push9 _ hown2 hgrow2 (hat2.imp_right fun h => h.trans (by simp)))
              clear hown2 hgrow2 hat2 hlt2
              go_wp2
              go_roundw
              case rel => exact ⟨j + 1, by omega, by go_num, Lib.hid (by
                have h1 := HLF.out
                have h2 := HLO.out
                rw [if_pos hw, ← HLo.out] at h1
                rw [if_pos hw, ← HOd.out] at h2
                rw [h1, h2]
                exact HZ.out)⟩
              case measure => simp [intOf]; omega
          · have d1 : decide (nodes ≤ x + st) = false := decide_eq_false hw
            have HZ : ∀ q, Hid (Own3 w1.heap.size w1 (wr.drewN q) u7 (.slice none 0 0) u9 (lowF nodes st (ps.take (j + 1))) [] (lowO nodes st ps (j + 1))) := fun q => Lib.hid (by
              have h1 := HLF.out
              have h2 := HLO.out
              rw [if_neg hw, List.append_nil] at h1
              rw [if_neg hw, List.append_nil] at h2
              rw [h1, h2]
              exact HW.out.later (below_drewN (Below.refl _ _) q))
            go_wp2
            go_quiet (fail)
            go_wp2
            go_roundw
            case rel => exact ⟨j + 1, by omega, by go_num, HZ _⟩
            case measure => simp [intOf]; omega
        · have hjk : k = j := by omega
          subst hjk
          have hO3 : Hid (Own3 w1.heap.size w1 wr u7 (.slice none 0 0) u9 (lowF nodes st (ps.take k)) (highF nodes st (ps.take 0)) (lowO nodes st ps k ++ highO nodes st ps 0)) := by
            have : lowO nodes st ps k ++ highO nodes st ps 0 = lowO nodes st ps k := by unfold highO; simp
            rw [this]
            exact HW
          generalize u7 = v7 at hO3 ⊢
          go_wp2_with fail
          clear z0 z1 hlt
          go_loopw [8, 9, 11] (fun v8 v9 i wr => ∃ j : Nat, j ≤ k ∧ i = .int .i64 j ∧ Hid (Own3 w1.heap.size w1 wr v7 v8 v9 (lowF nodes st (ps.take k)) (highF nodes st (ps.take j)) (lowO nodes st ps k ++ highO nodes st ps j))) (fun _ _ i _ => k - (intOf i).toNat)
          case atStart => exact ⟨0, Nat.zero_le _, rfl, hO3⟩
          case round =>
            clear HW hO3
            obtain ⟨j, hj, rfl, HW⟩ := hrel
            have z0 : wr.cell? ⟨w.heap.size, 0, none⟩ = some (.int .i64 nodes) := heap_cell ((HW.out.below.block _ (Array.getElem?_eq_some_iff.1 HR1.out).1).trans HR1.out) 0
            have z1 : wr.cell? ⟨w.heap.size, 1, none⟩ = some (.slice pa k pc) := heap_cell ((HW.out.below.block _ (Array.getElem?_eq_some_iff.1 HR1.out).1).trans HR1.out) 1
            by_cases hlt : j < k
            · have hpr := (HC.out.rp.below HB1.out).below HW.out.below
              obtain ⟨b, off, hpa, hc1⟩ := hpr.cells j hlt
              subst hpa
              have hjl : j < ps.length := by rw [HPL.out]; exact hlt
              have hrg := HIN.out ps[j] (List.getElem_mem _)
              have hL := highF_succ nodes st ps j hjl
              have hO := highO_succ nodes st ps j hjl
              generalize ps[j] = x at hc1 hrg hL hO
              unfold eI at hc1
              have HLF := Lib.hid hL
              have HLO := Lib.hid hO
              clear hL hO hpr
              have x0 := hrg.1
              have x1 := hrg.2
              have ws : wrap64 (x + st) = x + st := by unfold wrap64; omega
              by_cases hw : x + st < nodes
              · have d1 : decide (x + st < nodes) = true := decide_eq_true hw
                obtain ⟨lo, hlo⟩ : ∃ lo, lo = highF nodes st (ps.take j) := ⟨_, rfl⟩
                obtain ⟨od, hod⟩ : ∃ od, od = lowO nodes st ps k ++ highO nodes st ps j := ⟨_, rfl⟩
                rw [← hlo, ← hod] at HW
                have HLo := Lib.hid hlo
                have HOd := Lib.hid hod
                have e1 : lo.length ≤ 8 := by rw [hlo]; unfold highF; rw [List.length_map]; exact Nat.le_trans (List.length_filter_le _ _) (by rw [List.length_take]; omega)
                have e2 : od.length ≤ 16 := by
                  rw [hod, List.length_append]
                  have q1 : (lowO nodes st ps k).length ≤ 8 := by unfold lowO; rw [List.length_map]; exact Nat.le_trans (List.length_filter_le _ _) (by rw [List.length_range]; omega)
                  have q2 : (highO nodes st ps j).length ≤ 8 := by unfold highO; rw [List.length_map]; exact Nat.le_trans (List.length_filter_le _ _) (by rw [List.length_range]; omega)
                  omega
                clear hlo hod
                have KL : ∀ q : Nat, Hid (Own3 w1.heap.size w1 ((wr.drewN q).alloc (.cells #[eI (x + st)] 3)) v7 u8 u9 (lowF nodes st (ps.take k)) lo od) := fun q => Lib.hid (HW.out.later ((below_drewN (Below.refl _ _) q).alloc (by simp) _))
                have KB : ∀ q : Nat, w1.heap.size ≤ ((wr.drewN q).alloc (.cells #[eI (x + st)] 3)).heap.size := fun q => by have := HW.out.base; simp; omega
                obtain ⟨i0, hi, hz0, hz1, hz2⟩ := info_parts info_intT
                go_wp2
                go_quiet (fail)
                go_wp2_with (at_builtin; refine wpList_append_lies _ rfl _ _ 22 rfl w1.heap.size 3 i0 (.int .i64 0) 1 8 Tryd.underlying22 hi hz0 hz1 hz2 rfl (by decide) _ _ _ rfl (KL _).out.o8 ⟨wr.heap.size, 0, none⟩ 1 1 [eI (x + st)] rfl rfl (new_cells _ _ _ _ (by simp) _ rfl) (by intro u hu; simp at hu; rcases hu with rfl; rfl) (by omega) (by unfold maxLen; omega) (by omega) (KB _) _ rfl ?_)
                intro g cap V hown' hgrow hat hlt2
                have HN := Lib.hid ((KL _).out.swap89.push9 _ hown' hgrow (hat.imp_right fun h => h.trans (by simp))).swap89
                clear hown' hgrow hat hlt2
                have HA := Lib.hid (HN.out.later ((Below.refl V.heap.size V).alloc (Nat.le_refl _) (.cells #[eI (j : Int)] 3)))
                have kb : w1.heap.size ≤ (V.alloc (.cells #[eI (j : Int)] 3)).heap.size := HA.out.base
                go_wp2_with (at_builtin; refine wpList_append_lies _ rfl _ _ 22 rfl w1.heap.size 3 i0 (.int .i64 0) 1 8 Tryd.underlying22 hi hz0 hz1 hz2 rfl (by decide) _ _ _ rfl HA.out.o9 ⟨V.heap.size, 0, none⟩ 1 1 [eI (j : Int)] rfl rfl (new_cells _ _ _ _ rfl _ rfl) (by intro u hu; simp at hu; rcases hu with rfl; rfl) (by omega) (by unfold maxLen; omega) (by omega) kb _ rfl ?_)
                intro g2 cap2 V2 hown2 hgrow2 hat2 hlt2
                have HZ := Lib.hid (HA.out.push9 _ hown2 hgrow2 (hat2.imp_right fun h => h.trans (by simp)))
                clear hown2 hgrow2 hat2 hlt2
                go_wp2
                go_roundw
                case rel => exact ⟨j + 1, by omega, by go_num, Lib.hid (by
                  have h1 := HLF.out
                  have h2 := HLO.out
                  rw [if_pos hw, ← HLo.out] at h1
                  rw [if_pos hw] at h2
                  rw [h1, h2, ← List.append_assoc, ← HOd.out]
                  exact HZ.out)⟩
                case measure => simp [intOf]; omega
              · have d1 : decide (x + st < nodes) = false := decide_eq_false hw
                have HZ : ∀ q, Hid (Own3 w1.heap.size w1 (wr.drewN q) v7 u8 u9 (lowF nodes st (ps.take k)) (highF nodes st (ps.take (j + 1))) (lowO nodes st ps k ++ highO nodes st ps (j + 1))) := fun q => Lib.hid (by
                  have h1 := HLF.out
                  have h2 := HLO.out
                  rw [if_neg hw, List.append_nil] at h1
                  rw [if_neg hw, List.append_nil] at h2
                  rw [h1, h2]
                  exact HW.out.later (below_drewN (Below.refl _ _) q))
                go_wp2
                go_quiet (fail)
                go_wp2
                go_roundw
                case rel => exact ⟨j + 1, by omega, by go_num, HZ _⟩
                case measure => simp [intOf]; omega
            · have hjk2 : k = j := by omega
              subst hjk2
              obtain ⟨lo, hlo⟩ : ∃ lo, lo = lowF nodes st ps := ⟨_, rfl⟩
              obtain ⟨hi, hhi⟩ : ∃ hi, hi = highF nodes st ps := ⟨_, rfl⟩
              obtain ⟨od, hod⟩ : ∃ od, od = orderF nodes st ps := ⟨_, rfl⟩
              have hT : ps.take k = ps := List.take_of_length_le (by rw [HPL.out]; exact Nat.le_refl _)
              have HQ : Hid (Own3 w1.heap.size w1 wr v7 u8 u9 lo hi od) := Lib.hid (by
                have h := HW.out
                rw [hT, ← hlo, ← hhi] at h
                have e : lowO nodes st ps k ++ highO nodes st ps k = od := by rw [hod]; unfold orderF; rw [HPL.out]
                rw [e] at h
                exact h)
              have hol : od.length = k := by rw [hod, (order_ok nodes st ps).len, HPL.out]
              have ltn : (turnF nodes st ps).length = k := by rw [(turn_perm _ _ _).length_eq, List.length_map]; exact HPL.out
              have hll : lo.length + hi.length = k := by rw [← ltn, hlo, hhi]; unfold turnF; rw [List.length_append]
              have HTN : Hid (lo ++ hi = turnF nodes st ps) := Lib.hid (by rw [hlo, hhi]; rfl)
              have HOD := Lib.hid hod
              have hll1 : lo.length ≤ 16 := by omega
              have hll2 : hi.length ≤ 16 := by omega
              have rr := (HQ.out.below.block _ (Array.getElem?_eq_some_iff.1 HR1.out).1).trans HR1.out
              have HLL := Lib.hid (⟨hll1, hll2⟩ : _ ∧ _)
              have HLS := Lib.hid hll
              have HOL := Lib.hid hol
              have HW3 : Hid (Own3 w1.heap.size w1 (wr.alloc (.cells #[.int .i64 nodes, .slice pa k pc, .slice sa sn sc, .int .i64 long, .slice ba bn bc, .slice ta tn tc, .int .i64 miss, .int .i64 good, .int .i64 fresh] 25)) v7 u8 u9 lo hi od ∧ (wr.alloc (.cells #[.int .i64 nodes, .slice pa k pc, .slice sa sn sc, .int .i64 long, .slice ba bn bc, .slice ta tn tc, .int .i64 miss, .int .i64 good, .int .i64 fresh] 25)).heap[wr.heap.size]? = some (.cells #[.int .i64 nodes, .slice pa k pc, .slice sa sn sc, .int .i64 long, .slice ba bn bc, .slice ta tn tc, .int .i64 miss, .int .i64 good, .int .i64 fresh] 25 (0, 0))) := Lib.hid ⟨HQ.out.later ((Below.refl _ _).alloc (Nat.le_refl _) _), heap_new _ _ _ rfl⟩
              clear HW hlo hhi hod hT ltn hll hll1 hll2 hol
              go_wp2_with (at_builtin; refine own3_append HW3.out.1 HLL.out.1 HLL.out.2 HW3.out.2 rfl _ _ rfl rfl rfl ?_)
              intro a7 c7 W4 HW4
              have hgB : w1.heap.size ≤ wr.heap.size := HQ.out.base
              obtain ⟨g, hg⟩ : ∃ g, g = wr.heap.size := ⟨_, rfl⟩
              rw [← hg] at HW4 hgB ⊢
              clear hg HQ rr z0 z1 HW3
              rw [HLS.out] at HW4 ⊢
              refine Paused.mk ?_
              have d1 : W4.cell? ⟨g, 1, none⟩ = some (.slice pa k pc) := heap_cell HW4.out.2 1
              have d2 : W4.cell? ⟨g, 2, none⟩ = some (.slice sa sn sc) := heap_cell HW4.out.2 2
              have f1 : W4.frozen? ⟨g, 1, none⟩ = false := heap_thawed HW4.out.2 1
              have f2 : W4.frozen? ⟨g, 2, none⟩ = false := heap_thawed HW4.out.2 2
              go_wp2_with fail
              obtain ⟨W5, hW5⟩ : ∃ W5, W5 = (W4.setCell ⟨g, 1, none⟩ (.slice a7 k c7)).setCell ⟨g, 2, none⟩ (.slice none 0 0) := ⟨_, rfl⟩
              rw [← hW5]
              have r5a : (W4.setCell ⟨g, 1, none⟩ (.slice a7 k c7)).heap[g]? = some (.cells #[.int .i64 nodes, .slice a7 k c7, .slice sa sn sc, .int .i64 long, .slice ba bn bc, .slice ta tn tc, .int .i64 miss, .int .i64 good, .int .i64 fresh] 25 (0, 0)) := heap_set_same HW4.out.2 1 _
              have HW5 : Hid (Own3 w1.heap.size w1 W5 (.slice a7 k c7) (.slice none 0 0) u9 (lo ++ hi) (([] : List Int).map (nowF od)) od ∧ W5.heap[g]? = some (.cells #[.int .i64 nodes, .slice a7 k c7, .slice none 0 0, .int .i64 long, .slice ba bn bc, .slice ta tn tc, .int .i64 miss, .int .i64 good, .int .i64 fresh] 25 (0, 0))) := Lib.hid (by
                rw [hW5]
                exact ⟨(HW4.out.1.set HW4.out.2 hgB 1 _).set r5a hgB 2 _, heap_set_same r5a 2 _⟩)
              clear hW5 r5a d1 d2 f1 f2 HW4
              obtain ⟨a9, c9, hu9, _, _⟩ := HW5.out.1.o9.reads
              rw [HOL.out] at hu9
              subst hu9
              have hsl : ss.length = sn := HC.out.rs.len
              have HSL := Lib.hid hsl
              clear hsl
              go_loopw [13] (fun i wr => ∃ (m : Nat) (a2 : Option Addr) (n2 c2 : Nat), m ≤ sn ∧ i = .int .i64 m ∧ Hid (Own3 w1.heap.size w1 wr (.slice a7 k c7) (.slice a2 n2 c2) (.slice a9 k c9) (lo ++ hi) ((ss.take m).map (nowF od)) od ∧ wr.heap[g]? = some (.cells #[.int .i64 nodes, .slice a7 k c7, .slice a2 n2 c2, .int .i64 long, .slice ba bn bc, .slice ta tn tc, .int .i64 miss, .int .i64 good, .int .i64 fresh] 25 (0, 0)))) (fun i _ => sn - (intOf i).toNat)
              case atStart => exact ⟨0, none, 0, 0, Nat.zero_le _, rfl, HW5⟩
              case round =>
                clear HW5
                obtain ⟨m, a2, n2, c2, hm, rfl, HX⟩ := hrel
                obtain ⟨X0, hX0⟩ : ∃ X0 : World, X0 = wr := ⟨_, rfl⟩
                subst hX0
                have rc0 := (HX.out.1.below.block _ (Array.getElem?_eq_some_iff.1 HR1.out).1).trans HR1.out
                have z2 : X0.cell? ⟨w.heap.size, 2, none⟩ = some (.slice sa sn sc) := heap_cell rc0 2
                by_cases hms : m < sn
                · have hsr := (HC.out.rs.below HB1.out).below HX.out.1.below
                  obtain ⟨bs', offs, hsa, hcs⟩ := hsr.cells m hms
                  subst hsa
                  have hml : m < ss.length := by rw [HSL.out]; exact hms
                  have htk := List.take_succ_eq_append_getElem hml
                  generalize ss[m] = x at hcs htk
                  unfold eI at hcs
                  have HTK := Lib.hid htk
                  clear htk hsr rc0
                  obtain ⟨a9', c9', hu9, _, hr9⟩ := HX.out.1.o9.reads
                  simp only [Value.slice.injEq] at hu9
                  rw [← hu9.1] at hr9
                  clear hu9
                  have hr9' := hr9 (by have := HOL.out; omega)
                  have HR9 := Lib.hid hr9'
                  clear hr9 hr9'
                  go_wp2_with fail
                  go_loopw [14, 15] (fun nw i wq => ∃ (y q : Nat), y ≤ k ∧ nw = .int .i64 (nowN od x y) ∧ i = .int .i64 y ∧ wq = X0.drewN q) (fun _ i _ => k - (intOf i).toNat)
                  case atStart => exact ⟨0, 0, Nat.zero_le _, rfl, rfl, rfl⟩
                  case round =>
                    obtain ⟨y, q, hy, rfl, rfl, rfl⟩ := hrel
                    by_cases hyk : y < k
                    · obtain ⟨b9, o9, ha9, hc9⟩ := HR9.out.cells y (by rw [HOL.out]; exact hyk)
                      subst ha9
                      have hyl : y < od.length := by rw [HOL.out]; exact hyk
                      have hnw : nowN od x (y + 1) = if od[y] = x then (y : Int) else nowN od x y := by
                        simp only [nowN]
                        rw [show od.getD y 0 = od[y] by rw [List.getD_eq_getElem?_getD, List.getElem?_eq_getElem hyl]; rfl]
                      generalize od[y] = z at hc9 hnw
                      unfold eI at hc9
                      have HNW := Lib.hid hnw
                      clear hnw
                      by_cases e : z = x
                      · have e1 : (z == x) = true := by simpa using e
                        have HE := Lib.hid e
                        clear e
                        go_wp2
                        go_quiet (fail)
                        go_wp2
                        go_roundw
                        case rel => exact ⟨y + 1, _, by omega, by rw [HNW.out, if_pos HE.out], by go_num, by first | rfl | exact World.drewN_drewN ..⟩
                        case measure => simp [intOf]; omega
                      · have e1 : (z == x) = false := by simpa using e
                        have HE := Lib.hid e
                        clear e
                        go_wp2
                        go_quiet (fail)
                        go_wp2
                        go_roundw
                        case rel => exact ⟨y + 1, _, by omega, by rw [HNW.out, if_neg HE.out], by go_num, by first | rfl | exact World.drewN_drewN ..⟩
                        case measure => simp [intOf]; omega
                    · have hyk2 : k = y := by omega
                      subst hyk2
                      have hnf : nowN od x k = nowF od x := by unfold nowF; rw [HOL.out]
                      rw [hnf]
                      obtain ⟨nv, hnv⟩ : ∃ nv, nv = nowF od x := ⟨_, rfl⟩
                      rw [← hnv]
                      have HNV := Lib.hid hnv
                      clear hnf hnv
                      obtain ⟨X1, hX1⟩ : ∃ X1, X1 = X0.drewN q := ⟨_, rfl⟩
                      rw [← hX1]
                      obtain ⟨sl, hsl⟩ : ∃ sl, sl = (ss.take m).map (nowF od) := ⟨_, rfl⟩
                      have lm : sl.length ≤ 60 := by rw [hsl, List.length_map, List.length_take]; omega
                      have HX1 := Lib.hid (show Own3 w1.heap.size w1 X1 (.slice a7 k c7) (.slice a2 n2 c2) (.slice a9 k c9) (lo ++ hi) sl od ∧ X1.heap[g]? = some (.cells #[.int .i64 nodes, .slice a7 k c7, .slice a2 n2 c2, .int .i64 long, .slice ba bn bc, .slice ta tn tc, .int .i64 miss, .int .i64 good, .int .i64 fresh] 25 (0, 0)) by
                        have h := HX.out
                        rw [← hsl] at h
                        rw [hX1]; exact ⟨h.1.later (below_drewN (Below.refl _ _) q), h.2⟩)
                      clear hX1
                      have HSl := Lib.hid hsl
                      clear hsl
                      have l2 : n2 = sl.length := by
                        obtain ⟨a', c', e, _⟩ := HX1.out.1.o8.reads
                        cases e; rfl
                      have HL2 := Lib.hid l2
                      have HA := Lib.hid (HX1.out.1.later ((Below.refl X1.heap.size X1).alloc (Nat.le_refl _) (.cells #[eI nv] 3)))
                      have HRA : Hid ((X1.alloc (.cells #[eI nv] 3)).heap[g]? = some (.cells #[.int .i64 nodes, .slice a7 k c7, .slice a2 n2 c2, .int .i64 long, .slice ba bn bc, .slice ta tn tc, .int .i64 miss, .int .i64 good, .int .i64 fresh] 25 (0, 0))) := Lib.hid ((heap_alloc_old _ _ (Array.getElem?_eq_some_iff.1 HX1.out.2).1).trans HX1.out.2)
                      have kb : w1.heap.size ≤ (X1.alloc (.cells #[eI nv] 3)).heap.size := HA.out.base
                      have c2g : X1.cell? ⟨g, 2, none⟩ = some (.slice a2 n2 c2) := heap_cell HX1.out.2 2
                      obtain ⟨i0, hi', hz0, hz1, hz2⟩ := info_parts info_intT
                      clear l2 hyk
                      go_wp2_with (at_builtin; refine wpList_append_lies _ rfl _ _ 22 rfl w1.heap.size 3 i0 (.int .i64 0) 1 8 Tryd.underlying22 hi' hz0 hz1 hz2 rfl (by decide) _ _ _ rfl HA.out.o8 ⟨X1.heap.size, 0, none⟩ 1 1 [eI nv] rfl rfl (new_cells _ _ _ _ rfl _ rfl) (by intro u hu; simp at hu; rcases hu with rfl; rfl) (by omega) (by unfold maxLen; omega) (by omega) kb _ rfl ?_)
                      intro g2 cap2 X2 hown2 hgrow2 hat2 hlt2
                      have HZ := Lib.hid ((HA.out.swap89.push9 _ hown2 hgrow2 (hat2.imp_right fun h => h.trans (by simp))).swap89)
                      have r2 : X2.heap[g]? = some (.cells #[.int .i64 nodes, .slice a7 k c7, .slice a2 n2 c2, .int .i64 long, .slice ba bn bc, .slice ta tn tc, .int .i64 miss, .int .i64 good, .int .i64 fresh] 25 (0, 0)) := (hgrow2.block g (Array.getElem?_eq_some_iff.1 HRA.out).1 (fun e3 => HA.out.o8.off HRA.out e3.symm)).trans HRA.out
                      have c2x : X2.cell? ⟨g, 2, none⟩ = some (.slice a2 n2 c2) := heap_cell r2 2
                      have f2x : X2.frozen? ⟨g, 2, none⟩ = false := heap_thawed r2 2
                      have HR2 := Lib.hid r2
                      clear hown2 hgrow2 hat2 hlt2 r2 c2g
                      go_wp2
                      go_roundw
                      case rel => exact ⟨m + 1, _, _, _, by omega, by go_num, Lib.hid (by
                        have e : (ss.take (m + 1)).map (nowF od) = sl ++ [nv] := by rw [HTK.out, List.map_append, ← HSl.out, HNV.out]; rfl
                        rw [e]
                        exact ⟨HZ.out.set HR2.out hgB 2 _, heap_set_same HR2.out 2 _⟩)⟩
                      case measure => simp [intOf]; omega
                · have hms2 : sn = m := by omega
                  subst hms2
                  have hcv : Hid (CfgIn X0 nodes long miss good fresh a7 a2 ba ta k c7 n2 c2 bn bc tn tc (turnF nodes st ps) (ss.map (nowF od)) bs ts ∧ CfgIn X0 nodes long miss good fresh pa sa ba ta k pc sn sc bn bc tn tc ps ss bs ts) := Lib.hid (by
                    have h := HX.out.1
                    rw [List.take_of_length_le (by rw [HSL.out]; exact Nat.le_refl _), HTN.out] at h
                    have C0 := (HC.out.below HB1.out).below h.below
                    obtain ⟨a, c, e, o7, r7⟩ := h.o7.reads
                    cases e
                    obtain ⟨a', c', e', o8, r8⟩ := h.o8.reads
                    cases e'
                    have l8 : (ss.map (nowF od)).length = sn := by rw [List.length_map]; exact HSL.out
                    have r7' := r7 (by omega)
                    have r8' := r8 (by omega)
                    exact ⟨⟨o7, o8, C0.ob, C0.ot, r7', r8', C0.rb, C0.rt⟩, C0⟩)
                  obtain ⟨er, her⟩ : ∃ er, er = (Cfg.mk nodes long miss good fresh ps ss bs ts).err := ⟨_, rfl⟩
                  have hte : (Cfg.mk nodes long miss good fresh (turnF nodes st ps) (ss.map (nowF od)) bs ts).err = er := by
                    rw [her, HOD.out]
                    exact turned_err (Cfg.mk nodes long miss good fresh ps ss bs ts) st n4 n16 (by show (0 : Int) ≤ st; omega) hstn HIN.out HSO.out
                  have HBX := Lib.hid (HB1.out.trans (HX.out.1.below.mono HB1.out.size))
                  have D1 : ∀ W, Below X0.heap.size X0 W → Calls Tryd.prog 34 #[.agg #[.int .i64 nodes, .slice a7 k c7, .slice a2 n2 c2, .int .i64 long, .slice ba bn bc, .slice ta tn tc, .int .i64 miss, .int .i64 good, .int .i64 fresh]] W fun e w' => e = .returned (.int .i64 er) ∧ Below X0.heap.size X0 w' := fun W hb =>
                    (wrong_any _ _ _ _ _ _ _ _ _ _ _ _ _ _ _ _ _ _ _ _ _ W (HS.out.below (HBX.out.trans (hb.mono HBX.out.size))) (hcv.out.1.below hb)).mono fun e w' ⟨h1, h2⟩ => ⟨h1.trans (ret_int hte), hb.trans (h2.mono hb.size)⟩
                  have D2 : ∀ W, Below X0.heap.size X0 W → Calls Tryd.prog 34 #[.agg #[.int .i64 nodes, .slice pa k pc, .slice sa sn sc, .int .i64 long, .slice ba bn bc, .slice ta tn tc, .int .i64 miss, .int .i64 good, .int .i64 fresh]] W fun e w' => e = .returned (.int .i64 er) ∧ Below X0.heap.size X0 w' := fun W hb =>
                    (wrong_any _ _ _ _ _ _ _ _ _ _ _ _ _ _ _ _ _ _ _ _ _ W (HS.out.below (HBX.out.trans (hb.mono HBX.out.size))) (hcv.out.2.below hb)).mono fun e w' ⟨h1, h2⟩ => ⟨h1.trans (ret_int her.symm), hb.trans (h2.mono hb.size)⟩
                  have D3 : ∀ W, Below X0.heap.size X0 W → Calls Tryd.prog 31 #[] W fun e w' => e = .returned (.bool true) ∧ Below X0.heap.size X0 w' := fun W hb =>
                    (lives04_any W (HS.out.below (HBX.out.trans (hb.mono HBX.out.size)))).mono fun e w' ⟨h1, h2⟩ => ⟨h1, hb.trans (h2.mono hb.size)⟩
                  have KR : ∀ W, Below X0.heap.size X0 W → W.heap[g]? = some (.cells #[.int .i64 nodes, .slice a7 k c7, .slice a2 n2 c2, .int .i64 long, .slice ba bn bc, .slice ta tn tc, .int .i64 miss, .int .i64 good, .int .i64 fresh] 25 (0, 0)) ∧ W.heap[w.heap.size]? = some (.cells #[.int .i64 nodes, .slice pa k pc, .slice sa sn sc, .int .i64 long, .slice ba bn bc, .slice ta tn tc, .int .i64 miss, .int .i64 good, .int .i64 fresh] 25 (0, 0)) := fun W hb =>
                    ⟨(hb.block _ (Array.getElem?_eq_some_iff.1 HX.out.2).1).trans HX.out.2, (hb.block _ (Array.getElem?_eq_some_iff.1 rc0).1).trans rc0⟩
                  have E1 := Lib.hid D1
                  have E2 := Lib.hid D2
                  have E3 := Lib.hid D3
                  have HKR := Lib.hid KR
                  have H00 := Lib.hid (Below.refl X0.heap.size X0)
                  have bb : ((er == 0) == (er == 0)) = true := by simp
                  clear D1 D2 D3 KR her hte rc0
                  go_wp2_with fail
                  clear z2
                  go_region_held3 (fun W => W.heap[g]? = some (.cells #[.int .i64 nodes, .slice a7 k c7, .slice a2 n2 c2, .int .i64 long, .slice ba bn bc, .slice ta tn tc, .int .i64 miss, .int .i64 good, .int .i64 fresh] 25 (0, 0)) ∧ W.heap[w.heap.size]? = some (.cells #[.int .i64 nodes, .slice pa k pc, .slice sa sn sc, .int .i64 long, .slice ba bn bc, .slice ta tn tc, .int .i64 miss, .int .i64 good, .int .i64 fresh] 25 (0, 0))) (first | exact HKR.out _ H00.out | exact HKR.out _ H00.out.drew | exact HKR.out _ h18 | exact HKR.out _ h28 | exact HKR.out _ h38 | fail) (first | (go_at_call 34; (with_reducible refine (E1.out _ (by first | exact H00.out | exact H00.out.drew)).mono ?_); rintro e w8 ⟨rfl, h18⟩) | (go_at_call 34; (with_reducible refine (E2.out _ h18).mono ?_); rintro e w8 ⟨rfl, h28⟩) | (go_at_call 31; refine (E3.out _ h28).mono ?_; rintro e w8 ⟨rfl, h38⟩) | fail)
                  go_wp2
                  go_ret
                  exact ⟨rfl, HBX.out.trans (h38.mono HBX.out.size)⟩
end Go.Proofs.YtibncdkekceokaaDoor
