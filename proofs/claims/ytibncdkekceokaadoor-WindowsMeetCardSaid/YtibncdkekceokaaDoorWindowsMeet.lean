/- sennitlaw10.WindowsMeet: the walk. -/
import Derived.Test.YtibncdkekceokaaDoorWindowsOver
namespace Go.Proofs.YtibncdkekceokaaDoor
open Go.RowKit

attribute [local go_sem ↓ high] cfgLoad_eq winLoad_eq
attribute [local go_sem high] run_cfgLoad run_cfgLoad_new2 run_winLoad run_winLoad_new
/-- The source of a node, so many hops ahead, stands so many places ahead. -/
theorem meet_source {n d a i h : Int} (h4 : 4 ≤ n) (h16 : n ≤ 16) (hd : d = 0 ∨ d = 1) (a0 : 0 ≤ a) (a1 : a < n) (i0 : 0 ≤ i) (i1 : i < n) (hh : h = 1 ∨ h = 2) (hk : h ≤ plG n d a i) :
    ∃ s : Nat, sourceF n d i h = s ∧ (s : Int) < n ∧ plG n d a s = plG n d a i - h := by
  have hb : hopsB h = true := by unfold hopsB; exact decide_eq_true hh
  unfold sourceF
  rw [if_pos hb]
  rcases hd with rfl | rfl
  · rw [stepF_cw h4 h16 i0 i1 (by omega) (by omega)]
    have hin : 0 ≤ onG n i (-h) ∧ onG n i (-h) < n := by unfold onG; (repeat' split) <;> omega
    refine ⟨(onG n i (-h)).toNat, by omega, by omega, ?_⟩
    rw [Int.toNat_of_nonneg hin.1]
    revert hk
    unfold plG onG
    repeat' split
    all_goals omega
  · rw [stepF_ccw h4 h16 i0 i1 (by omega) (by omega)]
    have hin : 0 ≤ onG n i (- -h) ∧ onG n i (- -h) < n := by unfold onG; (repeat' split) <;> omega
    refine ⟨(onG n i (- -h)).toNat, by omega, by omega, ?_⟩
    rw [Int.toNat_of_nonneg hin.1]
    revert hk
    unfold plG onG
    repeat' split
    all_goals omega
theorem pass_in {k i x : Int} (h0 : 0 ≤ i) (h1 : i < 114) : passF (1 + k) (1 + k + 114) (1 + k + i) x = x := by
  unfold passF openB; rw [if_pos (decide_eq_true (by omega))]
theorem pass_out {b e p x : Int} (h : p < b ∨ e ≤ p) : passF b e p x = 0 := by
  unfold passF openB; rw [if_neg (by simp; omega)]
theorem tick_in {b e p i : Int} (h : p = b + i) (h0 : 0 ≤ i) (h1 : p < e) : tickF b e p = i ∧ openB b e p = true := by
  unfold tickF openB; rw [if_pos (by omega)]; exact ⟨by omega, decide_eq_true (by omega)⟩
set_option maxRecDepth 100000 in
set_option maxHeartbeats 8000000 in
theorem windowsMeet_walk (nodes long miss good fresh : Int) (pa sa ba ta : Option Addr) (pn pc sn sc bn bc tn tc : Nat) (ps ss bs : List Int) (ts : List (Int × Int × Int)) (x0 x1 x2 : Nat) (xb0 : x0 ≤ 255) (xb1 : x1 ≤ 255) (xb2 : x2 ≤ 255) (z : Bool) (w : World) (hs : Signs w) (hr : Roles w) (hC : CfgIn w nodes long miss good fresh pa sa ba ta pn pc sn sc bn bc tn tc ps ss bs ts) :
    Calls Tryd.prog 15 #[.agg #[.int .i64 nodes, .slice pa pn pc, .slice sa sn sc, .int .i64 long, .slice ba bn bc, .slice ta tn tc, .int .i64 miss, .int .i64 good, .int .i64 fresh], .agg #[.int .u8 x0, .int .u8 x1, .int .u8 x2], .bool z] w fun e w' => e = .returned (.bool true) ∧ Below w.heap.size w w' := by
  have hb0 := ((Below.refl w.heap.size w).alloc (Nat.le_refl _) (.cells #[.int .i64 nodes, .slice pa pn pc, .slice sa sn sc, .int .i64 long, .slice ba bn bc, .slice ta tn tc, .int .i64 miss, .int .i64 good, .int .i64 fresh] 25)).alloc (by simp) (.cells #[.int .u8 x0, .int .u8 x1, .int .u8 x2] 65)
  have rc : ((w.alloc (.cells #[.int .i64 nodes, .slice pa pn pc, .slice sa sn sc, .int .i64 long, .slice ba bn bc, .slice ta tn tc, .int .i64 miss, .int .i64 good, .int .i64 fresh] 25)).alloc (.cells #[.int .u8 x0, .int .u8 x1, .int .u8 x2] 65)).heap[w.heap.size]? = some (.cells #[.int .i64 nodes, .slice pa pn pc, .slice sa sn sc, .int .i64 long, .slice ba bn bc, .slice ta tn tc, .int .i64 miss, .int .i64 good, .int .i64 fresh] 25 (0, 0)) := heap_alloc2_old w _ _
  have rx : ((w.alloc (.cells #[.int .i64 nodes, .slice pa pn pc, .slice sa sn sc, .int .i64 long, .slice ba bn bc, .slice ta tn tc, .int .i64 miss, .int .i64 good, .int .i64 fresh] 25)).alloc (.cells #[.int .u8 x0, .int .u8 x1, .int .u8 x2] 65)).heap[w.heap.size + 1]? = some (.cells #[.int .u8 x0, .int .u8 x1, .int .u8 x2] 65 (0, 0)) := heap_new _ _ _ (by simp)
  have hN := net06_any nodes long miss good fresh pa sa ba ta pn pc sn sc bn bc tn tc ps ss bs ts _ (hs.below hb0) (hC.below hb0)
  obtain ⟨c, hc⟩ : ∃ c, c = Cfg.mk nodes long miss good fresh ps ss bs ts := ⟨_, rfl⟩
  have HCC := Lib.hid hc
  rw [← hc] at hN
  have HS := Lib.hid hs
  have HR := Lib.hid hr
  have HC := Lib.hid hC
  have HB0 := Lib.hid hb0
  have HN := Lib.hid hN
  have HRC := Lib.hid rc
  have HRX := Lib.hid rx
  have HPL := Lib.hid hC.rp.len
  clear hs hr hb0 hc hN rc hC rx
  go_enter Tryd.func15, Tryd.ntmps15
  go_wp2_with fail
  refine HN.out.mono ?_
  rintro e B ⟨hP, hbB⟩
  have HB := Lib.hid (HB0.out.trans (hbB.mono (by simp; try omega)))
  have rc := row_later HRC.out hbB (by simp)
  have rx := row_later HRX.out hbB (by simp)
  have hl : ∀ W, Below B.heap.size B W → Calls Tryd.prog 46 #[] W fun e w' => e = .returned (.bool true) ∧ Below w.heap.size w w' := fun W hb => by
    have h1 := HB.out.trans (hb.mono HB.out.size)
    exact (lives10_any W (HS.out.below h1) (HR.out.below h1)).mono fun e w' ⟨h2, h3⟩ => ⟨h2, h1.trans (h3.mono h1.size)⟩
  have HL := Lib.hid hl
  clear hbB hl
  rcases hP with rfl | ⟨b, rfl, he, hNP⟩
  · go_wp2_with (go_at_call 46; refine (HL.out _ (Below.refl _ _)).mono ?_; rintro e w' ⟨rfl, hbe⟩)
    go_ret
    exact ⟨rfl, hbe⟩
  have HE := Lib.hid he
  have HOK := Lib.hid (Cfg.ok he)
  have HNP := Lib.hid hNP
  clear he hNP
  have KC : ∀ W, Below B.heap.size B W → W.cell? ⟨w.heap.size, 0, none⟩ = some (.int .i64 nodes) ∧ W.cell? ⟨w.heap.size, 1, none⟩ = some (.slice pa pn pc) ∧ W.cell? ⟨w.heap.size, 3, none⟩ = some (.int .i64 long) ∧ W.heap[w.heap.size]? = some (.cells #[.int .i64 nodes, .slice pa pn pc, .slice sa sn sc, .int .i64 long, .slice ba bn bc, .slice ta tn tc, .int .i64 miss, .int .i64 good, .int .i64 fresh] 25 (0, 0)) ∧ w.heap.size < W.heap.size ∧ W.cell? ⟨w.heap.size + 1, 0, none⟩ = some (.int .u8 x0) ∧ W.cell? ⟨w.heap.size + 1, 1, none⟩ = some (.int .u8 x1) ∧ W.cell? ⟨w.heap.size + 1, 2, none⟩ = some (.int .u8 x2) ∧ w.heap.size + 1 < W.heap.size := fun W hb => by
    have h1 := row_later rc hb (Nat.le_refl _)
    have h2 := row_later rx hb (Nat.le_refl _)
    exact ⟨heap_cell h1 0, heap_cell h1 1, heap_cell h1 3, h1, (Array.getElem?_eq_some_iff.1 h1).1, heap_cell h2 0, heap_cell h2 1, heap_cell h2 2, (Array.getElem?_eq_some_iff.1 h2).1⟩
  have HKC := Lib.hid KC
  obtain ⟨z0, z1, z3, zr, s0, y0, y1, y2, s1⟩ := KC B (Below.refl _ _)
  have n4 : 4 ≤ nodes := by have := HOK.out.n4; rw [HCC.out] at this; exact this
  have n16 : nodes ≤ 16 := by have := HOK.out.n16; rw [HCC.out] at this; exact this
  have p2 : 2 ≤ pn := by have := HOK.out.p2; rw [HCC.out] at this; have := HPL.out; simp only at *; omega
  have p8 : pn ≤ 8 := by have := HOK.out.p8; rw [HCC.out] at this; have := HPL.out; simp only at *; omega
  have l1 : nodes + 116 ≤ long := by have := HOK.out.l1; rw [HCC.out] at this; simp only at *; omega
  have l2 : long ≤ 4096 := by have := HOK.out.l2; rw [HCC.out] at this; exact this
  have n0 : ¬ nodes = 0 := by omega
  have n0' : (nodes == 0) = false := by simpa using n0
  have m0 : ¬ pn = 0 := by omega
  have m0' : ((pn : Int) == 0) = false := by simp; omega
  have HCN : Hid (c.nodes = nodes) := Lib.hid (by rw [HCC.out])
  have HCP : Hid (c.ps = ps) := Lib.hid (by rw [HCC.out])
  have DW : ∀ (d : Int) (o i : Nat) W, (d = 0 ∨ d = 1) → (o : Int) < pn → (i : Int) < nodes → Below B.heap.size B W → ∃ k : Int, 0 ≤ k ∧ k < nodes ∧ k = plG nodes d (ps.getD o 0) i ∧ Calls Tryd.prog 48 #[.pointer (some ⟨b, 0, none⟩), .int .u8 d, .int .i64 o, .int .i64 i] W fun e w' => e = .returned (.tuple #[.agg #[.int .u8 (roleF k), .int .i64 k, .int .i64 (1 + k), .int .i64 (1 + k + 114)], .int .i64 0]) ∧ Below W.heap.size W w' := fun d o i W hd ho hi hb => by
    have hop : o < c.ps.length := by rw [HCC.out]; show o < ps.length; have := HPL.out; omega
    have hcn : c.nodes = nodes := HCN.out
    have hg : c.ps[o] = ps.getD o 0 := by
      have : c.ps = ps := HCP.out
      rw [List.getD_eq_getElem?_getD, ← this, List.getElem?_eq_getElem hop]; rfl
    have hin := first_in HOK.out o hop
    have hw := win_of HOK.out d hd o hop i (by omega) (by omega)
    have h1 := HB.out.trans (hb.mono HB.out.size)
    have h := winof_any (some ⟨b, 0, none⟩) c c.pairs d o i (by omega) W (HS.out.below h1) (HR.out.below h1) (HNP.out.below hb) (rq_ok HOK.out)
    rw [hw.1, hw.2] at h
    have hk := plG_in (d := d) hin.1 hin.2 (show (0 : Int) ≤ i by omega) (by omega)
    rw [hcn, hg] at hk
    rw [hcn, hg] at h
    exact ⟨_, hk.1, hk.2, rfl, h⟩
  have AIN : ∀ o : Nat, (o : Int) < pn → 0 ≤ ps.getD o 0 ∧ ps.getD o 0 < nodes := fun o ho => by
    have hol : o < ps.length := by have := HPL.out; omega
    have := HOK.out.pin (ps.getD o 0) (by rw [HCP.out, List.getD_eq_getElem?_getD, List.getElem?_eq_getElem hol]; exact List.getElem_mem _)
    rw [HCN.out] at this
    exact this
  have HAI := Lib.hid AIN
  have HDW := Lib.hid DW
  clear DW KC rc AIN rx
  obtain ⟨o0, ho0, hon0⟩ := rem_nat x0 (show (0 : Int) < pn by omega)
  obtain ⟨nd, hnd, hndn⟩ := rem_nat x1 (show 0 < nodes by omega)
  obtain ⟨i0, hi0, hin0⟩ := rem_nat x2 (show (0 : Int) < 114 by omega)
  obtain ⟨D, hD⟩ : ∃ D : Int, D = if z = true then 1 else 0 := ⟨_, rfl⟩
  have hD2 : D = 0 ∨ D = 1 := by rw [hD]; split <;> simp
  obtain ⟨k0, kb0, kb1, hk0, DC0⟩ := HDW.out D o0 nd B hD2 hon0 hndn (Below.refl _ _)
  have HM : ∀ h : Nat, (h = 1 ∨ h = 2) → (h : Int) ≤ k0 → ∃ s : Nat, (∀ W, Below B.heap.size B W → Calls Tryd.prog 57 #[.int .i64 nodes, .int .u8 D, .int .i64 nd, .int .i64 h] W fun e w' => e = .returned (.int .i64 (s : Int)) ∧ Below W.heap.size W w') ∧
      (∀ W, Below B.heap.size B W → Calls Tryd.prog 48 #[.pointer (some ⟨b, 0, none⟩), .int .u8 D, .int .i64 o0, .int .i64 s] W fun e w' => e = .returned (.tuple #[.agg #[.int .u8 (roleF (k0 - h)), .int .i64 (k0 - h), .int .i64 (1 + (k0 - h)), .int .i64 (1 + (k0 - h) + 114)], .int .i64 0]) ∧ Below W.heap.size W w') := fun h hh hk => by
    have ha := HAI.out o0 hon0
    obtain ⟨s, hs1, hs2, hs3⟩ := meet_source (h := (h : Int)) n4 n16 hD2 ha.1 ha.2 (show (0 : Int) ≤ nd by omega) hndn (by omega) (by rw [← hk0]; exact hk)
    refine ⟨s, fun W hb => ?_, fun W hb => ?_⟩
    · have h1 := source_any nodes D nd h W (by omega) (HS.out.below (HB.out.trans (hb.mono HB.out.size)))
      rw [hs1] at h1
      exact h1.mono fun e w' ⟨h2, k, h3⟩ => ⟨h2, by rw [h3]; exact below_drawn W k⟩
    · obtain ⟨k2, _, _, hk2, DC2⟩ := HDW.out D o0 s W hD2 hon0 hs2 hb
      rw [hs3, ← hk0] at hk2
      rw [hk2] at DC2
      exact DC2
  have DA0 : ∀ W, Calls Tryd.prog 51 #[.agg #[.int .u8 (roleF k0), .int .i64 k0, .int .i64 (1 + k0), .int .i64 (1 + k0 + 114)], .int .i64 (1 + k0 + i0)] W fun en w' => en = .returned (.tuple #[.int .i64 i0, .bool true]) ∧ Below W.heap.size W w' := fun W => by
    have h := winat_any (roleF k0) k0 (1 + k0) (1 + k0 + 114) (1 + k0 + i0) (by omega) (by omega) W
    have ht := tick_in (b := 1 + k0) (e := 1 + k0 + 114) (p := 1 + k0 + i0) (i := i0) rfl (by omega) (by omega)
    rw [ht.1, ht.2] at h
    exact h
  have DA1 : ∀ (h : Nat) W, (h : Int) ≤ k0 → Calls Tryd.prog 51 #[.agg #[.int .u8 (roleF (k0 - h)), .int .i64 (k0 - h), .int .i64 (1 + (k0 - h)), .int .i64 (1 + (k0 - h) + 114)], .int .i64 (1 + k0 + i0 - h)] W fun en w' => en = .returned (.tuple #[.int .i64 i0, .bool true]) ∧ Below W.heap.size W w' := fun h W hk => by
    have h1 := winat_any (roleF (k0 - h)) (k0 - h) (1 + (k0 - h)) (1 + (k0 - h) + 114) (1 + k0 + i0 - h) (by omega) (by omega) W
    have ht := tick_in (b := 1 + (k0 - h)) (e := 1 + (k0 - h) + 114) (p := 1 + k0 + i0 - h) (i := i0) (by omega) (by omega) (by omega)
    rw [ht.1, ht.2] at h1
    exact h1
  have DP : ∀ (p x r : Int) W, passF (1 + k0) (1 + k0 + 114) p x = r → Calls Tryd.prog 55 #[.agg #[.int .u8 (roleF k0), .int .i64 k0, .int .i64 (1 + k0), .int .i64 (1 + k0 + 114)], .int .i64 p, .int .u8 x] W fun en w' => en = .returned (.int .u8 r) ∧ Below W.heap.size W w' := fun p x r W hp => by
    have h := winpass_any (roleF k0) k0 (1 + k0) (1 + k0 + 114) p x (by omega) (by omega) W
    rw [hp] at h
    exact h
  have HMM := Lib.hid HM
  have HA0 := Lib.hid DA0
  have HA1 := Lib.hid DA1
  have HDP := Lib.hid DP
  have HD0 := Lib.hid DC0
  clear HM DA0 DA1 DP hk0 hD2 DC0
  have e1 : (1 + k0 + 114 - (1 + k0) != 114) = false := by simp; omega
  have e2 : decide (1 + k0 < 1) = false := decide_eq_false (by omega)
  cases z
  all_goals
    simp only [if_true, if_false, Bool.false_eq_true] at hD
    subst hD
    go_wp2_with fail
    refine HD0.out.mono ?_
    rintro e W1 ⟨rfl, hb1⟩
    clear z0 z1 z3 zr s0 y0 y1 y2 s1
    go_wp2_with fail
    obtain ⟨V1, hV1⟩ : ∃ V1, V1 = W1.alloc (.cells #[.int .u8 (roleF k0), .int .i64 k0, .int .i64 (1 + k0), .int .i64 (1 + k0 + 114)] 70) := ⟨_, rfl⟩
    rw [← hV1]
    have rv1 : V1.heap[W1.heap.size]? = some (.cells #[.int .u8 (roleF k0), .int .i64 k0, .int .i64 (1 + k0), .int .i64 (1 + k0 + 114)] 70 (0, 0)) := by rw [hV1]; exact heap_new _ _ _ rfl
    have HV1 : Hid (Below B.heap.size B V1) := Lib.hid (by rw [hV1]; exact hb1.alloc hb1.size _)
    have hg12 : B.heap.size ≤ W1.heap.size := hb1.size
    obtain ⟨g, hg⟩ : ∃ g, g = W1.heap.size := ⟨_, rfl⟩
    rw [← hg] at rv1 hg12 ⊢
    clear hV1 hb1 hg e1 e2 HD0
    refine (HA0.out V1).mono ?_
    rintro e V2 ⟨rfl, hb2⟩
    have rv2 := row_later rv1 hb2 (Nat.le_refl _)
    have c2 : V2.cell? ⟨g, 2, none⟩ = some (.int .i64 (1 + k0)) := heap_cell rv2 2
    have HV2 := Lib.hid (HV1.out.trans (hb2.mono HV1.out.size))
    clear hb2 rv1
    have pz : (2 : Int) = 2 := rfl
    go_wp2_with fail
    refine (HDP.out (1 + k0 + i0) 2 2 V2 (pass_in (by omega) (by omega))).mono ?_
    rintro e V3 ⟨rfl, hb3⟩
    have rv3 := row_later rv2 hb3 (Nat.le_refl _)
    have HV3 := Lib.hid (HV2.out.trans (hb3.mono HV2.out.size))
    clear hb3 rv2 c2
    have c2 : V3.cell? ⟨g, 2, none⟩ = some (.int .i64 (1 + k0)) := heap_cell rv3 2
    go_wp2_with fail
    refine (HDP.out (1 + k0 - 1) 2 0 V3 (pass_out (by omega))).mono ?_
    rintro e V4 ⟨rfl, hb4⟩
    have rv4 := row_later rv3 hb4 (Nat.le_refl _)
    have HV4 := Lib.hid (HV3.out.trans (hb4.mono HV3.out.size))
    clear hb4 rv3 c2
    have c3 : V4.cell? ⟨g, 3, none⟩ = some (.int .i64 (1 + k0 + 114)) := heap_cell rv4 3
    go_wp2_with fail
    refine (HDP.out (1 + k0 + 114) 2 0 V4 (pass_out (by omega))).mono ?_
    rintro e V5 ⟨rfl, hb5⟩
    have HV5 := Lib.hid (⟨HV4.out.trans (hb5.mono HV4.out.size), row_later rv4 hb5 (Nat.le_refl _)⟩ : _ ∧ _)
    clear hb5 rv4 c3
    go_wp2_with fail
    go_loopw [16] (fun hp wr => ∃ h : Nat, 1 ≤ h ∧ h ≤ 3 ∧ hp = .int .i64 h ∧ Hid (Below B.heap.size B wr ∧ wr.heap[g]? = some (.cells #[.int .u8 (roleF k0), .int .i64 k0, .int .i64 (1 + k0), .int .i64 (1 + k0 + 114)] 70 (0, 0)))) (fun hp _ => 3 - (intOf hp).toNat)
    case atStart => exact ⟨1, by omega, by omega, rfl, HV5⟩
    case round =>
      clear HV5
      obtain ⟨h, h1, h3, rfl, HX⟩ := hrel
      obtain ⟨X0, hX0⟩ : ∃ X0 : World, X0 = wr := ⟨_, rfl⟩
      subst hX0
      obtain ⟨z0, z1, z3, zr, s0, y0, y1, y2, s1⟩ := HKC.out X0 HX.out.1
      have c1 : X0.cell? ⟨g, 1, none⟩ = some (.int .i64 k0) := heap_cell HX.out.2 1
      by_cases hh : h ≤ 2 ∧ (h : Int) ≤ k0
      · obtain ⟨hh2, hhk⟩ := hh
        obtain ⟨s, DS, DO⟩ := HMM.out h (by omega) hhk
        have HDS := Lib.hid DS
        have HDO := Lib.hid DO
        have d2 : decide ((h : Int) ≤ 2) = true := decide_eq_true (by omega)
        have dk : decide ((h : Int) ≤ k0) = true := decide_eq_true hhk
        clear DS DO
        go_wp2_with fail
        refine (HDS.out _ HX.out.1).mono ?_
        rintro e X1 ⟨rfl, hb1⟩
        have HX1 := Lib.hid (⟨HX.out.1.trans (hb1.mono HX.out.1.size), row_later HX.out.2 hb1 (Nat.le_refl _)⟩ : _ ∧ _)
        clear z0 z1 z3 zr s0 y0 y1 y2 s1 hb1 c1
        go_wp2_with fail
        refine (HDO.out _ HX1.out.1).mono ?_
        rintro e X2 ⟨rfl, hb2⟩
        have HX2 := Lib.hid (⟨HX1.out.1.trans (hb2.mono HX1.out.1.size), row_later HX1.out.2 hb2 (Nat.le_refl _)⟩ : _ ∧ _)
        clear hb2
        have c2 : X2.cell? ⟨g, 2, none⟩ = some (.int .i64 (1 + k0)) := heap_cell HX2.out.2 2
        have sg : g < X2.heap.size := (Array.getElem?_eq_some_iff.1 HX2.out.2).1
        have hX2 : B.heap.size ≤ X2.heap.size := HX2.out.1.size
        go_wp2_with fail
        have HX3 : Hid (Below B.heap.size B (X2.alloc (.cells #[.int .u8 (roleF (k0 - h)), .int .i64 (k0 - h), .int .i64 (1 + (k0 - h)), .int .i64 (1 + (k0 - h) + 114)] 70)) ∧ (X2.alloc (.cells #[.int .u8 (roleF (k0 - h)), .int .i64 (k0 - h), .int .i64 (1 + (k0 - h)), .int .i64 (1 + (k0 - h) + 114)] 70)).heap[g]? = some (.cells #[.int .u8 (roleF k0), .int .i64 k0, .int .i64 (1 + k0), .int .i64 (1 + k0 + 114)] 70 (0, 0)) ∧ (X2.alloc (.cells #[.int .u8 (roleF (k0 - h)), .int .i64 (k0 - h), .int .i64 (1 + (k0 - h)), .int .i64 (1 + (k0 - h) + 114)] 70)).heap[X2.heap.size]? = some (.cells #[.int .u8 (roleF (k0 - h)), .int .i64 (k0 - h), .int .i64 (1 + (k0 - h)), .int .i64 (1 + (k0 - h) + 114)] 70 (0, 0))) :=
          Lib.hid ⟨HX2.out.1.alloc hX2 _, row_later HX2.out.2 ((Below.refl X2.heap.size X2).alloc (Nat.le_refl _) _) (Nat.le_refl _), heap_new _ _ _ rfl⟩
        generalize X2.alloc (.cells #[.int .u8 (roleF (k0 - h)), .int .i64 (k0 - h), .int .i64 (1 + (k0 - h)), .int .i64 (1 + (k0 - h) + 114)] 70) = X3 at HX3 ⊢
        refine (HA1.out h X3 hhk).mono ?_
        rintro e X4 ⟨rfl, hb4⟩
        have HX4 := Lib.hid (HX3.out.1.trans (hb4.mono HX3.out.1.size))
        have HR4 := Lib.hid (row_later HX3.out.2.1 hb4 (Nat.le_refl _))
        have c5 : X4.cell? ⟨X2.heap.size, 1, none⟩ = some (.int .i64 (k0 - h)) := heap_cell (row_later HX3.out.2.2 hb4 (Nat.le_refl _)) 1
        have c6 : X4.cell? ⟨g, 1, none⟩ = some (.int .i64 k0) := heap_cell HR4.out 1
        have e5 : (k0 - (h : Int) != k0 - (h : Int)) = false := by simp
        clear hb4 c2 sg
        go_wp2
        go_roundw
        case rel => exact ⟨h + 1, by omega, by omega, by go_num, Lib.hid ⟨HX4.out, HR4.out⟩⟩
        case measure => simp [intOf]; omega
      · by_cases hh2 : h ≤ 2
        · have d2 : decide ((h : Int) ≤ 2) = true := decide_eq_true (by omega)
          have dk : decide ((h : Int) ≤ k0) = false := decide_eq_false (by omega)
          go_wp2_with (go_at_call 46; refine (HL.out _ HX.out.1).mono ?_; rintro e w' ⟨rfl, hbe⟩)
          go_ret
          exact ⟨rfl, hbe⟩
        · have d2 : decide ((h : Int) ≤ 2) = false := decide_eq_false (by omega)
          go_wp2_with (go_at_call 46; refine (HL.out _ HX.out.1).mono ?_; rintro e w' ⟨rfl, hbe⟩)
          go_ret
          exact ⟨rfl, hbe⟩
end Go.Proofs.YtibncdkekceokaaDoor
