/- sennitlaw10.WindowsOver: the walk. -/
import Derived.Test.YtibncdkekceokaaDoorWinK
namespace Go.Proofs.YtibncdkekceokaaDoor
open Go.RowKit

attribute [local go_sem ↓ high] cfgLoad_eq
attribute [local go_sem high] run_cfgLoad
theorem run_cfgLoad_new2 (w : World) (cs : Array Value) (o : Obj) (hs : cs.size = 9) : (cfgLoad (.pointer (some ⟨w.heap.size, 0, none⟩))).run Tryd.prog ((w.alloc (.cells cs 25)).alloc o) = .ok (.agg cs) ((w.alloc (.cells cs 25)).alloc o) := run_cfgLoad _ _ _ (heap_alloc2_old w _ _) hs
attribute [local go_sem high] run_cfgLoad_new2

/-- The last end of the first nodes' windows. -/
def lastF (n d a : Int) : Nat → Int
  | 0 => 0
  | j + 1 => max (lastF n d a j) (1 + plG n d a j + 114)
theorem lastF_le {n d a : Int} (h0 : 0 ≤ a) (h1 : a < n) : ∀ j : Nat, (j : Int) ≤ n → 0 ≤ lastF n d a j ∧ lastF n d a j ≤ n + 114 := by
  intro j
  induction j with
  | zero => intro _; simp only [lastF]; omega
  | succ j ih =>
    intro hj
    have h2 := ih (by omega)
    have h3 := plG_in (d := d) h0 h1 (show (0 : Int) ≤ j by omega) (by omega)
    simp only [lastF]
    omega
theorem lastF_hit {n d a : Int} (h0 : 0 ≤ a) (h1 : a < n) (i : Nat) (hp : plG n d a i = n - 1) : ∀ j : Nat, (j : Int) ≤ n → i < j → lastF n d a j = n + 114 := by
  intro j
  induction j with
  | zero => intro _ h; omega
  | succ j ih =>
    intro hj hlt
    have h2 := lastF_le (d := d) h0 h1 j (by omega)
    have h3 := plG_in (d := d) h0 h1 (show (0 : Int) ≤ j by omega) (by omega)
    simp only [lastF]
    by_cases e : i = j
    · subst e; omega
    · have := ih (by omega) (by omega); omega
theorem lastF_all {n d a : Int} (hd : d = 0 ∨ d = 1) (h4 : 4 ≤ n) (h0 : 0 ≤ a) (h1 : a < n) : lastF n d a n.toNat = n + 114 := by
  rcases hd with rfl | rfl
  · by_cases e : a = 0
    · exact lastF_hit h0 h1 (n - 1).toNat (by unfold plG; rw [if_pos rfl, if_pos (by omega)]; omega) _ (by omega) (by omega)
    · exact lastF_hit h0 h1 (a - 1).toNat (by unfold plG; rw [if_pos rfl, if_neg (by omega)]; omega) _ (by omega) (by omega)
  · by_cases e : a + 2 < n
    · exact lastF_hit h0 h1 (a + 2).toNat (by unfold plG; rw [if_neg (by omega), if_neg (by omega), if_neg (by omega)]; omega) _ (by omega) (by omega)
    · exact lastF_hit h0 h1 (a + 2 - n).toNat (by unfold plG; rw [if_neg (by omega), if_neg (by omega), if_pos (by omega)]; omega) _ (by omega) (by omega)

theorem rem_nat (x : Nat) {n : Int} (hn : 0 < n) : ∃ r : Nat, (x : Int).tmod n = r ∧ (r : Int) < n :=
  ⟨((x : Int) % n).toNat, by rw [Int.tmod_eq_emod_of_nonneg (by omega)]; have := Int.emod_nonneg (x : Int) (show n ≠ 0 by omega); omega, by have := Int.emod_lt_of_pos (x : Int) hn; omega⟩

set_option maxRecDepth 100000 in
set_option maxHeartbeats 8000000 in
theorem windowsOver_walk (nodes long miss good fresh : Int) (pa sa ba ta : Option Addr) (pn pc sn sc bn bc tn tc : Nat) (ps ss bs : List Int) (ts : List (Int × Int × Int)) (x0 x1 x2 : Nat) (xb0 : x0 ≤ 255) (xb1 : x1 ≤ 255) (xb2 : x2 ≤ 255) (w : World) (hs : Signs w) (hr : Roles w) (hC : CfgIn w nodes long miss good fresh pa sa ba ta pn pc sn sc bn bc tn tc ps ss bs ts) :
    Calls Tryd.prog 11 #[.agg #[.int .i64 nodes, .slice pa pn pc, .slice sa sn sc, .int .i64 long, .slice ba bn bc, .slice ta tn tc, .int .i64 miss, .int .i64 good, .int .i64 fresh], .agg #[.int .u8 x0, .int .u8 x1, .int .u8 x2]] w fun e w' => e = .returned (.bool true) ∧ Below w.heap.size w w' := by
  have hb0 := ((Below.refl w.heap.size w).alloc (Nat.le_refl _) (.cells #[.int .i64 nodes, .slice pa pn pc, .slice sa sn sc, .int .i64 long, .slice ba bn bc, .slice ta tn tc, .int .i64 miss, .int .i64 good, .int .i64 fresh] 25)).alloc (by simp) (.cells #[.int .u8 x0, .int .u8 x1, .int .u8 x2] 65)
  have rc : ((w.alloc (.cells #[.int .i64 nodes, .slice pa pn pc, .slice sa sn sc, .int .i64 long, .slice ba bn bc, .slice ta tn tc, .int .i64 miss, .int .i64 good, .int .i64 fresh] 25)).alloc (.cells #[.int .u8 x0, .int .u8 x1, .int .u8 x2] 65)).heap[w.heap.size]? = some (.cells #[.int .i64 nodes, .slice pa pn pc, .slice sa sn sc, .int .i64 long, .slice ba bn bc, .slice ta tn tc, .int .i64 miss, .int .i64 good, .int .i64 fresh] 25 (0, 0)) := heap_alloc2_old w _ _
  have rx : ((w.alloc (.cells #[.int .i64 nodes, .slice pa pn pc, .slice sa sn sc, .int .i64 long, .slice ba bn bc, .slice ta tn tc, .int .i64 miss, .int .i64 good, .int .i64 fresh] 25)).alloc (.cells #[.int .u8 x0, .int .u8 x1, .int .u8 x2] 65)).heap[w.heap.size + 1]? = some (.cells #[.int .u8 x0, .int .u8 x1, .int .u8 x2] 65 (0, 0)) := heap_new _ _ _ (by simp)
  have hN := net06_any nodes long miss good fresh pa sa ba ta pn pc sn sc bn bc tn tc ps ss bs ts _ (hs.below hb0) (hC.below hb0)
  obtain ⟨c, hc⟩ : ∃ c, c = Cfg.mk nodes long miss good fresh ps ss bs ts := ⟨_, rfl⟩
  have HCC := Lib.hid hc
  rw [← hc] at hN
  have HS := Lib.hid hs
  have HR := Lib.hid hr
  have HB0 := Lib.hid hb0
  have HN := Lib.hid hN
  have HRC := Lib.hid rc
  have HRX := Lib.hid rx
  have HPL := Lib.hid hC.rp.len
  clear hs hr hb0 hc hN rc rx
  go_enter Tryd.func11, Tryd.ntmps11
  go_wp2_with fail
  refine HN.out.mono ?_
  rintro e B ⟨hP, hbB⟩
  have HB := Lib.hid (HB0.out.trans (hbB.mono (by simp; omega)))
  have rc := row_later HRC.out hbB (by simp)
  have rx := row_later HRX.out hbB (by simp)
  have hl : ∀ W, Below B.heap.size B W → Calls Tryd.prog 46 #[] W fun e w' => e = .returned (.bool true) ∧ Below w.heap.size w w' := fun W hb => by
    have h1 := HB.out.trans (hb.mono HB.out.size)
    exact (lives10_any W (HS.out.below h1) (HR.out.below h1)).mono fun e w' ⟨h2, h3⟩ => ⟨h2, h1.trans (h3.mono h1.size)⟩
  have HL := Lib.hid hl
  clear hbB hl
  rcases hP with rfl | ⟨b, rfl, he, hNP⟩
  · go_wp2_with (go_at_call 46; refine (HL.out _ (Below.refl _ _)).mono ?_; rintro e w' ⟨rfl, hbe⟩)
    go_ret
    exact ⟨rfl, hbe⟩
  have HOK := Lib.hid (Cfg.ok he)
  have HNP := Lib.hid hNP
  clear he hNP
  have KC : ∀ W, Below B.heap.size B W → W.cell? ⟨w.heap.size, 0, none⟩ = some (.int .i64 nodes) ∧ W.cell? ⟨w.heap.size, 1, none⟩ = some (.slice pa pn pc) ∧ W.cell? ⟨w.heap.size, 3, none⟩ = some (.int .i64 long) ∧ W.cell? ⟨w.heap.size + 1, 0, none⟩ = some (.int .u8 x0) ∧ W.cell? ⟨w.heap.size + 1, 1, none⟩ = some (.int .u8 x1) ∧ W.cell? ⟨w.heap.size + 1, 2, none⟩ = some (.int .u8 x2) ∧ w.heap.size < W.heap.size ∧ w.heap.size + 1 < W.heap.size := fun W hb => by
    have h1 := row_later rc hb (Nat.le_refl _)
    have h2 := row_later rx hb (Nat.le_refl _)
    exact ⟨heap_cell h1 0, heap_cell h1 1, heap_cell h1 3, heap_cell h2 0, heap_cell h2 1, heap_cell h2 2, (Array.getElem?_eq_some_iff.1 h1).1, (Array.getElem?_eq_some_iff.1 h2).1⟩
  have HKC := Lib.hid KC
  obtain ⟨z0, z1, z3, y0, y1, y2, s0, s1⟩ := KC B (Below.refl _ _)
  have n4 : 4 ≤ nodes := by have := HOK.out.n4; rw [HCC.out] at this; exact this
  have n16 : nodes ≤ 16 := by have := HOK.out.n16; rw [HCC.out] at this; exact this
  have p2 : 2 ≤ pn := by have := HOK.out.p2; rw [HCC.out] at this; have := HPL.out; simp only at *; omega
  have p8 : pn ≤ 8 := by have := HOK.out.p8; rw [HCC.out] at this; have := HPL.out; simp only at *; omega
  have l1 : nodes + 116 ≤ long := by have := HOK.out.l1; rw [HCC.out] at this; simp only at *; omega
  have l2 : long ≤ 4096 := by have := HOK.out.l2; rw [HCC.out] at this; exact this
  have n0 : ¬ nodes = 0 := by omega
  have n0' : (nodes == 0) = false := by simpa using n0
  have m0 : ¬ pn = 0 := by omega
  have m0' : ((pn : Int) == 0) = false := by simp; omega
  obtain ⟨nd, hnd, hndn⟩ := rem_nat x2 (show 0 < nodes by omega)
  obtain ⟨o0, ho0, hon0⟩ := rem_nat x0 (show (0 : Int) < pn by omega)
  obtain ⟨o1, ho1, hon1⟩ := rem_nat x1 (show (0 : Int) < pn by omega)
  have hov : overF c.pairs c = nodes + 114 := by unfold overF; rw [if_neg (round_ne HOK.out), HCC.out]
  have DO : ∀ W, Below B.heap.size B W → Calls Tryd.prog 47 #[.pointer (some ⟨b, 0, none⟩)] W fun e w' => e = .returned (.int .i64 (nodes + 114)) ∧ ∃ k, w' = W.drewN k := fun W hb => by
    have h := over_any (some ⟨b, 0, none⟩) c c.pairs W (HNP.out.below hb) (rq_ok HOK.out) (by have h1 := HOK.out.n4; have h2 := HOK.out.n16; omega)
    rw [hov] at h
    exact h
  have DW : ∀ (d : Int) (o i : Nat) W, (d = 0 ∨ d = 1) → (o : Int) < pn → (i : Int) < nodes → Below B.heap.size B W → ∃ k : Int, 0 ≤ k ∧ k < nodes ∧ k = plG nodes d (ps.getD o 0) i ∧ Calls Tryd.prog 48 #[.pointer (some ⟨b, 0, none⟩), .int .u8 d, .int .i64 o, .int .i64 i] W fun e w' => e = .returned (.tuple #[.agg #[.int .u8 (roleF k), .int .i64 k, .int .i64 (1 + k), .int .i64 (1 + k + 114)], .int .i64 0]) ∧ Below W.heap.size W w' := fun d o i W hd ho hi hb => by
    have hop : o < c.ps.length := by rw [HCC.out]; show o < ps.length; have := HPL.out; omega
    have hcn : c.nodes = nodes := by rw [HCC.out]
    have hg : c.ps[o] = ps.getD o 0 := by
      have : c.ps = ps := by rw [HCC.out]
      rw [List.getD_eq_getElem?_getD, ← this, List.getElem?_eq_getElem hop]; rfl
    have hin := first_in HOK.out o hop
    have hw := win_of HOK.out d hd o hop i (by omega) (by omega)
    have h1 := HB.out.trans (hb.mono HB.out.size)
    have h := winof_any (some ⟨b, 0, none⟩) c c.pairs d o i (by omega) W (HS.out.below h1) (HR.out.below h1) (HNP.out.below hb) (rq_ok HOK.out)
    rw [hw.1, hw.2] at h
    have hk := plG_in (d := d) hin.1 hin.2 (show (0 : Int) ≤ i by omega) (by omega)
    rw [hcn, hg] at hk
    rw [hcn, hg] at h
    exact ⟨_, hk.1, hk.2, rfl, h⟩
  have HDO := Lib.hid DO
  have HDW := Lib.hid DW
  have HRc := Lib.hid rc
  have HRx := Lib.hid rx
  clear DO DW KC hov rc rx
  go_wp2_with fail
  refine (HDO.out _ (Below.refl _ _)).mono ?_
  rintro e B2 ⟨rfl, q, rfl⟩
  have HB2 := Lib.hid (below_drawn B q)
  have d0 : decide (long - 2 < nodes + 114) = false := decide_eq_false (by omega)
  go_wp2_with fail
  clear d0
  go_loopw [8] (fun d wr => ∃ k : Nat, k ≤ 2 ∧ d = .int .u8 k ∧ Hid (Below B.heap.size B wr)) (fun d _ => 2 - (intOf d).toNat)
  case atStart => exact ⟨0, by omega, rfl, HB2⟩
  case round =>
    obtain ⟨k, hk, rfl, HW⟩ := hrel
    clear z0 z1 z3 y0 y1 y2 s0 s1
    by_cases hlt : k < 2
    · obtain ⟨W0, hW0⟩ : ∃ W0 : World, W0 = wr := ⟨_, rfl⟩
      subst hW0
      have dk : decide ((k : Int) ≤ 1) = true := decide_eq_true (by omega)
      obtain ⟨z0, z1, z3, y0, y1, y2, s0, s1⟩ := HKC.out W0 HW.out
      obtain ⟨k0, kb0, kb1, hk0, DC0⟩ := HDW.out (k : Int) o0 nd W0 (by omega) hon0 hndn HW.out
      have HK0 := Lib.hid hk0
      have HDC0 := Lib.hid DC0
      clear hk0 DC0
      go_wp2_with fail
      refine HDC0.out.mono ?_
      rintro e W1 ⟨rfl, hb1⟩
      have HW1 := Lib.hid (HW.out.trans (hb1.mono HW.out.size))
      clear z0 z1 z3 y0 y1 y2 s0 s1 hb1 HDC0
      obtain ⟨z0, z1, z3, y0, y1, y2, s0, s1⟩ := HKC.out W1 HW1.out
      go_wp2_with fail
      obtain ⟨V1, hV1⟩ : ∃ V1, V1 = W1.alloc (.cells #[.int .u8 (roleF k0), .int .i64 k0, .int .i64 (1 + k0), .int .i64 (1 + k0 + 114)] 70) := ⟨_, rfl⟩
      rw [← hV1]
      have rv1 : V1.heap[W1.heap.size]? = some (.cells #[.int .u8 (roleF k0), .int .i64 k0, .int .i64 (1 + k0), .int .i64 (1 + k0 + 114)] 70 (0, 0)) := by rw [hV1]; exact heap_new _ _ _ rfl
      have HV1 : Hid (Below B.heap.size B V1) := Lib.hid (by rw [hV1]; exact HW1.out.alloc HW1.out.size _)
      clear hV1
      obtain ⟨k1, kc0, kc1, hk1, DC1⟩ := HDW.out (k : Int) o1 nd V1 (by omega) hon1 hndn HV1.out
      have HDC1 := Lib.hid DC1
      clear hk1 DC1 z0 z1 z3 y0 y1 y2 s0 s1
      refine HDC1.out.mono ?_
      rintro e W2 ⟨rfl, hb2⟩
      have HW2 := Lib.hid (HV1.out.trans (hb2.mono HV1.out.size))
      have rw2 := row_later rv1 hb2 (Nat.le_refl _)
      clear hb2 HDC1 rv1
      obtain ⟨z0, z1, z3, y0, y1, y2, s0, s1⟩ := HKC.out W2 HW2.out
      have v3 : W2.cell? ⟨W1.heap.size, 3, none⟩ = some (.int .i64 (1 + k0 + 114)) := heap_cell rw2 3
      have sv : W1.heap.size < W2.heap.size := (Array.getElem?_eq_some_iff.1 rw2).1
      have d1 : decide (nodes + 114 < 1 + k0 + 114) = false := decide_eq_false (by omega)
      have d2 : decide (long + (1 + k1) - (1 + k0 + 114) < 2) = false := decide_eq_false (by omega)
      go_wp2_with fail
      clear d1 d2 v3 sv z0 z1 z3 y0 y1 y2 s0 s1 rw2
      have HV2 : Hid (Below B.heap.size B (W2.alloc (.cells #[.int .u8 (roleF k1), .int .i64 k1, .int .i64 (1 + k1), .int .i64 (1 + k1 + 114)] 70))) := Lib.hid (HW2.out.alloc HW2.out.size _)
      have ha0 : 0 ≤ ps.getD o0 0 ∧ ps.getD o0 0 < nodes := by
        have hcn : c.nodes = nodes := by rw [HCC.out]
        have hcp : c.ps = ps := by rw [HCC.out]
        have hol : o0 < ps.length := by have := HPL.out; omega
        have := HOK.out.pin (ps.getD o0 0) (by rw [hcp, List.getD_eq_getElem?_getD, List.getElem?_eq_getElem hol]; exact List.getElem_mem _)
        omega
      have ak : (k : Int) = 0 ∨ (k : Int) = 1 := by omega
      have HLA := Lib.hid (lastF_all ak n4 ha0.1 ha0.2)
      have HLE := Lib.hid (fun j hj => lastF_le (d := (k : Int)) ha0.1 ha0.2 j hj)
      clear ha0 ak
      go_loopw [13, 14] (fun la i wr => ∃ j : Nat, (j : Int) ≤ nodes ∧ i = .int .i64 j ∧ la = .int .i64 (lastF nodes k (ps.getD o0 0) j) ∧ Hid (Below B.heap.size B wr)) (fun _ i _ => nodes.toNat - (intOf i).toNat)
      case atStart => exact ⟨0, by omega, rfl, rfl, HV2⟩
      case round =>
        clear HV2
        obtain ⟨j, hj, rfl, rfl, HX⟩ := hrel
        obtain ⟨X0, hX0⟩ : ∃ X0 : World, X0 = wr := ⟨_, rfl⟩
        subst hX0
        obtain ⟨z0, z1, z3, y0, y1, y2, s0, s1⟩ := HKC.out X0 HX.out
        have hle := HLE.out j hj
        by_cases hjl : (j : Int) < nodes
        · obtain ⟨k2, kd0, kd1, hk2, DC2⟩ := HDW.out (k : Int) o0 j X0 (by omega) hon0 hjl HX.out
          have HK2 := Lib.hid hk2
          have HDC2 := Lib.hid DC2
          have HLS := Lib.hid (show lastF nodes k (ps.getD o0 0) (j + 1) = max (lastF nodes k (ps.getD o0 0) j) (1 + k2 + 114) by simp only [lastF]; rw [← hk2])
          obtain ⟨la, hla⟩ : ∃ la, la = lastF nodes k (ps.getD o0 0) j := ⟨_, rfl⟩
          rw [← hla] at HLS hle ⊢
          clear hk2 DC2 hla
          go_wp2_with fail
          refine HDC2.out.mono ?_
          rintro e X1 ⟨rfl, hb3⟩
          have HX1 := Lib.hid (HX.out.trans (hb3.mono HX.out.size))
          clear z0 z1 z3 y0 y1 y2 s0 s1 hb3 HDC2
          obtain ⟨z0, z1, z3, y0, y1, y2, s0, s1⟩ := HKC.out X1 HX1.out
          go_wp2
          go_roundw
          case rel => exact ⟨j + 1, by omega, by go_num, by rw [HLS.out], Lib.hid (HX1.out.alloc HX1.out.size _)⟩
          case measure => simp [intOf]; omega
        · have hjn : (j : Int) = nodes := by omega
          have hv : lastF nodes k (ps.getD o0 0) j = nodes + 114 := by
            have := HLA.out
            rw [show nodes.toNat = j by omega] at this
            exact this
          rw [hv]
          have e1 : (nodes + 114 != nodes + 114) = false := by simp
          clear hv hjn
          go_wp2
          go_roundw
          case rel => exact ⟨k + 1, by omega, by go_num, HX⟩
          case measure => simp [intOf]; omega
    · go_wp2_with (go_at_call 46; refine (HL.out _ HW.out).mono ?_; rintro e w' ⟨rfl, hbe⟩)
      go_ret
      exact ⟨rfl, hbe⟩
end Go.Proofs.YtibncdkekceokaaDoor
