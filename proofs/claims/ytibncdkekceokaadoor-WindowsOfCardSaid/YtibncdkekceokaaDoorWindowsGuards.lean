/- sennitlaw10.WindowsGuards: the walk. -/
import Derived.Test.YtibncdkekceokaaDoorWindowsOver
namespace Go.Proofs.YtibncdkekceokaaDoor
open Go.RowKit

attribute [local go_sem ↓ high] cfgLoad_eq winLoad_eq
attribute [local go_sem high] run_cfgLoad run_cfgLoad_new run_winLoad run_winLoad_new
theorem half_on {n a : Int} (h4 : 4 ≤ n) (a0 : 0 ≤ a) (a1 : a < n) : (a + 1) % n = onG n a 1 := on_eq (by omega) (by omega)
/-- An owner's guard in a direction: its place, and its two sources. -/
theorem guard_ok {n d a : Int} (h4 : 4 ≤ n) (h16 : n ≤ 16) (hd : d = 0 ∨ d = 1) (a0 : 0 ≤ a) (a1 : a < n) :
    ∃ g s1 s2 : Nat, (if d = 0 then stepF n 0 a 2 else stepF n 1 a 1) = g ∧ (g : Int) < n ∧ plG n d a g = 2 ∧ (g : Int) ≠ a ∧ (g : Int) ≠ (a + 1) % n ∧ sourceF n d g 1 = s1 ∧ sourceF n d g 2 = s2 ∧ ((s1 : Int) = a ∨ (s1 : Int) = (a + 1) % n) ∧ ((s2 : Int) = a ∨ (s2 : Int) = (a + 1) % n) := by
  rw [half_on h4 a0 a1]
  have b1 : hopsB 1 = true := rfl
  have b2 : hopsB 2 = true := rfl
  unfold sourceF
  rcases hd with rfl | rfl
  · rw [if_pos rfl, stepF_cw h4 h16 a0 a1 (by omega) (by omega)]
    simp only [b1, b2, reduceIte]
    obtain ⟨g, hg⟩ : ∃ g : Nat, onG n a 2 = g := ⟨(onG n a 2).toNat, by unfold onG; (repeat' split) <;> omega⟩
    have gn : (g : Int) < n := by rw [← hg]; unfold onG; (repeat' split) <;> omega
    refine ⟨g, (onG n g (-1)).toNat, (onG n g (-2)).toNat, hg, gn, ?_, ?_, ?_, ?_, ?_, ?_, ?_⟩
    all_goals
      try rw [stepF_cw h4 h16 (by omega) gn (by omega) (by omega)]
      revert hg
      unfold onG
      try unfold plG
      repeat' split
      all_goals omega
  · rw [if_neg (by omega), stepF_ccw h4 h16 a0 a1 (by omega) (by omega)]
    simp only [b1, b2, reduceIte]
    obtain ⟨g, hg⟩ : ∃ g : Nat, onG n a (-1) = g := ⟨(onG n a (-1)).toNat, by unfold onG; (repeat' split) <;> omega⟩
    have gn : (g : Int) < n := by rw [← hg]; unfold onG; (repeat' split) <;> omega
    refine ⟨g, (onG n g (- -1)).toNat, (onG n g (- -2)).toNat, hg, gn, ?_, ?_, ?_, ?_, ?_, ?_, ?_⟩
    all_goals
      try rw [stepF_ccw h4 h16 (by omega) gn (by omega) (by omega)]
      revert hg
      unfold onG
      try unfold plG
      repeat' split
      all_goals omega
/-- Who is a half, by its place. -/
theorem half_place {n d a i : Int} (h4 : 4 ≤ n) (hd : d = 0 ∨ d = 1) (a0 : 0 ≤ a) (a1 : a < n) (i0 : 0 ≤ i) (i1 : i < n) : (plG n d a i < 2) ↔ (i = a ∨ i = (a + 1) % n) := by
  rw [half_on h4 a0 a1]
  unfold plG onG
  rcases hd with rfl | rfl
  · rw [if_pos rfl]
    (repeat' split) <;> omega
  · rw [if_neg (by omega)]
    (repeat' split) <;> omega
def cntW (c : Cfg) (p : Nat) : Nat → Nat
  | 0 => 0
  | i + 1 => cntW c p i + if pairF c i = p then 1 else 0
theorem cntW_two {c : Cfg} (h : CfgOK c) (p : Nat) (hp : p < c.ps.length) : cntW c p c.nodes.toNat = 2 := by
  have hb := h.pin c.ps[p] (List.getElem_mem _)
  have hn := next_ne h _ hb.1 hb.2
  have h4 := h.n4
  have := count_two h p hp (cntW c p) rfl (fun i _ => rfl) c.nodes.toNat (by omega)
  rw [this, if_pos (by omega), if_pos (by omega)]
theorem cntW_le (c : Cfg) (p : Nat) : ∀ i, cntW c p i ≤ i := by
  intro i
  induction i with
  | zero => exact Nat.le_refl _
  | succ i ih => simp only [cntW]; split <;> omega
set_option maxRecDepth 100000 in
set_option maxHeartbeats 8000000 in
theorem windowsGuards_walk (nodes long miss good fresh : Int) (pa sa ba ta : Option Addr) (pn pc sn sc bn bc tn tc : Nat) (ps ss bs : List Int) (ts : List (Int × Int × Int)) (o : Nat) (ob : o ≤ 255) (w : World) (hs : Signs w) (hr : Roles w) (hC : CfgIn w nodes long miss good fresh pa sa ba ta pn pc sn sc bn bc tn tc ps ss bs ts) :
    Calls Tryd.prog 14 #[.agg #[.int .i64 nodes, .slice pa pn pc, .slice sa sn sc, .int .i64 long, .slice ba bn bc, .slice ta tn tc, .int .i64 miss, .int .i64 good, .int .i64 fresh], .int .u8 o] w fun e w' => e = .returned (.bool true) ∧ Below w.heap.size w w' := by
  have hb0 := (Below.refl w.heap.size w).alloc (Nat.le_refl _) (.cells #[.int .i64 nodes, .slice pa pn pc, .slice sa sn sc, .int .i64 long, .slice ba bn bc, .slice ta tn tc, .int .i64 miss, .int .i64 good, .int .i64 fresh] 25)
  have rc : (w.alloc (.cells #[.int .i64 nodes, .slice pa pn pc, .slice sa sn sc, .int .i64 long, .slice ba bn bc, .slice ta tn tc, .int .i64 miss, .int .i64 good, .int .i64 fresh] 25)).heap[w.heap.size]? = some (.cells #[.int .i64 nodes, .slice pa pn pc, .slice sa sn sc, .int .i64 long, .slice ba bn bc, .slice ta tn tc, .int .i64 miss, .int .i64 good, .int .i64 fresh] 25 (0, 0)) := heap_new _ _ _ rfl
  have hN := net06_any nodes long miss good fresh pa sa ba ta pn pc sn sc bn bc tn tc ps ss bs ts _ (hs.below hb0) (hC.below hb0)
  obtain ⟨c, hc⟩ : ∃ c, c = Cfg.mk nodes long miss good fresh ps ss bs ts := ⟨_, rfl⟩
  have HCC := Lib.hid hc
  rw [← hc] at hN
  have HS := Lib.hid hs
  have HR := Lib.hid hr
  have HC := Lib.hid hC
  have HB0 := Lib.hid hb0
  have HN := Lib.hid hN
  have HRC := Lib.hid rc
  have HPL := Lib.hid hC.rp.len
  clear hs hr hb0 hc hN rc hC
  go_enter Tryd.func14, Tryd.ntmps14
  go_wp2_with fail
  refine HN.out.mono ?_
  rintro e B ⟨hP, hbB⟩
  have HB := Lib.hid (HB0.out.trans (hbB.mono (by simp; try omega)))
  have rc := row_later HRC.out hbB (by simp)
  have hl : ∀ W, Below B.heap.size B W → Calls Tryd.prog 46 #[] W fun e w' => e = .returned (.bool true) ∧ Below w.heap.size w w' := fun W hb => by
    have h1 := HB.out.trans (hb.mono HB.out.size)
    exact (lives10_any W (HS.out.below h1) (HR.out.below h1)).mono fun e w' ⟨h2, h3⟩ => ⟨h2, h1.trans (h3.mono h1.size)⟩
  have HL := Lib.hid hl
  clear hbB hl
  rcases hP with rfl | ⟨b, rfl, he, hNP⟩
  · go_wp2_with (go_at_call 46; refine (HL.out _ (Below.refl _ _)).mono ?_; rintro e w' ⟨rfl, hbe⟩)
    go_ret
    exact ⟨rfl, hbe⟩
  have HE := Lib.hid he
  have HOK := Lib.hid (Cfg.ok he)
  have HNP := Lib.hid hNP
  clear he hNP
  have KC : ∀ W, Below B.heap.size B W → W.cell? ⟨w.heap.size, 0, none⟩ = some (.int .i64 nodes) ∧ W.cell? ⟨w.heap.size, 1, none⟩ = some (.slice pa pn pc) ∧ W.cell? ⟨w.heap.size, 3, none⟩ = some (.int .i64 long) ∧ W.heap[w.heap.size]? = some (.cells #[.int .i64 nodes, .slice pa pn pc, .slice sa sn sc, .int .i64 long, .slice ba bn bc, .slice ta tn tc, .int .i64 miss, .int .i64 good, .int .i64 fresh] 25 (0, 0)) ∧ w.heap.size < W.heap.size := fun W hb => by
    have h1 := row_later rc hb (Nat.le_refl _)
    exact ⟨heap_cell h1 0, heap_cell h1 1, heap_cell h1 3, h1, (Array.getElem?_eq_some_iff.1 h1).1⟩
  have HKC := Lib.hid KC
  obtain ⟨z0, z1, z3, zr, s0⟩ := KC B (Below.refl _ _)
  have n4 : 4 ≤ nodes := by have := HOK.out.n4; rw [HCC.out] at this; exact this
  have n16 : nodes ≤ 16 := by have := HOK.out.n16; rw [HCC.out] at this; exact this
  have p2 : 2 ≤ pn := by have := HOK.out.p2; rw [HCC.out] at this; have := HPL.out; simp only at *; omega
  have p8 : pn ≤ 8 := by have := HOK.out.p8; rw [HCC.out] at this; have := HPL.out; simp only at *; omega
  have l1 : nodes + 116 ≤ long := by have := HOK.out.l1; rw [HCC.out] at this; simp only at *; omega
  have l2 : long ≤ 4096 := by have := HOK.out.l2; rw [HCC.out] at this; exact this
  have n0 : ¬ nodes = 0 := by omega
  have n0' : (nodes == 0) = false := by simpa using n0
  have m0 : ¬ pn = 0 := by omega
  have m0' : ((pn : Int) == 0) = false := by simp; omega
  have HCN : Hid (c.nodes = nodes) := Lib.hid (by rw [HCC.out])
  have HCP : Hid (c.ps = ps) := Lib.hid (by rw [HCC.out])
  have DW : ∀ (d : Int) (o i : Nat) W, (d = 0 ∨ d = 1) → (o : Int) < pn → (i : Int) < nodes → Below B.heap.size B W → ∃ k : Int, 0 ≤ k ∧ k < nodes ∧ k = plG nodes d (ps.getD o 0) i ∧ Calls Tryd.prog 48 #[.pointer (some ⟨b, 0, none⟩), .int .u8 d, .int .i64 o, .int .i64 i] W fun e w' => e = .returned (.tuple #[.agg #[.int .u8 (roleF k), .int .i64 k, .int .i64 (1 + k), .int .i64 (1 + k + 114)], .int .i64 0]) ∧ Below W.heap.size W w' := fun d o i W hd ho hi hb => by
    have hop : o < c.ps.length := by rw [HCC.out]; show o < ps.length; have := HPL.out; omega
    have hcn : c.nodes = nodes := HCN.out
    have hg : c.ps[o] = ps.getD o 0 := by
      have : c.ps = ps := HCP.out
      rw [List.getD_eq_getElem?_getD, ← this, List.getElem?_eq_getElem hop]; rfl
    have hin := first_in HOK.out o hop
    have hw := win_of HOK.out d hd o hop i (by omega) (by omega)
    have h1 := HB.out.trans (hb.mono HB.out.size)
    have h := winof_any (some ⟨b, 0, none⟩) c c.pairs d o i (by omega) W (HS.out.below h1) (HR.out.below h1) (HNP.out.below hb) (rq_ok HOK.out)
    rw [hw.1, hw.2] at h
    have hk := plG_in (d := d) hin.1 hin.2 (show (0 : Int) ≤ i by omega) (by omega)
    rw [hcn, hg] at hk
    rw [hcn, hg] at h
    exact ⟨_, hk.1, hk.2, rfl, h⟩
  have AIN : ∀ o : Nat, (o : Int) < pn → 0 ≤ ps.getD o 0 ∧ ps.getD o 0 < nodes := fun o ho => by
    have hol : o < ps.length := by have := HPL.out; omega
    have := HOK.out.pin (ps.getD o 0) (by rw [HCP.out, List.getD_eq_getElem?_getD, List.getElem?_eq_getElem hol]; exact List.getElem_mem _)
    rw [HCN.out] at this
    exact this
  have HAI := Lib.hid AIN
  have HDW := Lib.hid DW
  clear DW KC rc AIN
  obtain ⟨o0, ho0, hon0⟩ := rem_nat o (show (0 : Int) < pn by omega)
  have HOP : Hid (o0 < c.ps.length) := Lib.hid (by rw [HCP.out]; have := HPL.out; omega)
  have HAG : Hid (c.ps[o0]'HOP.out = ps.getD o0 0) := Lib.hid (by
    have h1 : c.ps = ps := HCP.out
    rw [List.getD_eq_getElem?_getD, ← h1, List.getElem?_eq_getElem HOP.out]; rfl)
  have HPA : Hid (∀ W (i : Int), Below B.heap.size B W → Calls Tryd.prog 39 #[.pointer (some ⟨b, 0, none⟩), .int .i64 i] W fun e w' => e = .returned (.int .i64 (pairF c i)) ∧ W = w') := Lib.hid fun W i hb => pair_any _ c c.pairs i W (HNP.out.below hb)
  have HPO : Hid (∀ i : Int, (i = ps.getD o0 0 ∨ i = (ps.getD o0 0 + 1) % nodes) ↔ pairF c i = o0) := Lib.hid fun i => by
    have hn := HCN.out
    have hg := HAG.out
    constructor
    · intro h
      exact pair_of HOK.out o0 HOP.out i (by rw [hg, hn]; exact h)
    · intro h
      rcases pair_inv HOK.out i with ⟨h1, _⟩ | ⟨q, hq, h1, h2⟩
      · omega
      · obtain rfl : q = o0 := by omega
        rw [hg, hn] at h2
        exact h2
  have DG : ∀ k : Nat, k < 2 → ∃ g s1 s2 : Nat, ∃ r : Int, guardF c.pairs c o0 k = g ∧ (r == (o0 : Int)) = false ∧
      (∀ W, Below B.heap.size B W → Calls Tryd.prog 48 #[.pointer (some ⟨b, 0, none⟩), .int .u8 k, .int .i64 o0, .int .i64 g] W fun e w' => e = .returned (.tuple #[.agg #[.int .u8 2, .int .i64 2, .int .i64 3, .int .i64 117], .int .i64 0]) ∧ Below W.heap.size W w') ∧
      (∀ W, Below B.heap.size B W → Calls Tryd.prog 39 #[.pointer (some ⟨b, 0, none⟩), .int .i64 g] W fun e w' => e = .returned (.int .i64 r) ∧ W = w') ∧
      (∀ W, Below B.heap.size B W → Calls Tryd.prog 57 #[.int .i64 nodes, .int .u8 k, .int .i64 g, .int .i64 1] W fun e w' => e = .returned (.int .i64 (s1 : Int)) ∧ Below W.heap.size W w') ∧
      (∀ W, Below B.heap.size B W → Calls Tryd.prog 57 #[.int .i64 nodes, .int .u8 k, .int .i64 g, .int .i64 2] W fun e w' => e = .returned (.int .i64 (s2 : Int)) ∧ Below W.heap.size W w') ∧
      (∀ W, Below B.heap.size B W → Calls Tryd.prog 39 #[.pointer (some ⟨b, 0, none⟩), .int .i64 s1] W fun e w' => e = .returned (.int .i64 (o0 : Int)) ∧ W = w') ∧
      (∀ W, Below B.heap.size B W → Calls Tryd.prog 39 #[.pointer (some ⟨b, 0, none⟩), .int .i64 s2] W fun e w' => e = .returned (.int .i64 (o0 : Int)) ∧ W = w') := fun k hk => by
    have ha := HAI.out o0 hon0
    have hd : (k : Int) = 0 ∨ (k : Int) = 1 := by omega
    obtain ⟨g, s1, s2, g1, g2, g3, g4, g5, g6, g7, g8, g9⟩ := guard_ok n4 n16 hd ha.1 ha.2
    refine ⟨g, s1, s2, pairF c g, ?_, ?_, fun W hb => ?_, fun W hb => HPA.out W g hb, fun W hb => ?_, fun W hb => ?_, fun W hb => ?_, fun W hb => ?_⟩
    · unfold guardF
      rw [first_at HOK.out o0 HOP.out, HAG.out, HCN.out, if_neg (by omega)]
      exact g1
    · have := mt (HPO.out (g : Int)).2 (by rintro (h | h) <;> contradiction)
      simpa using this
    · obtain ⟨k2, _, _, hk2, DC2⟩ := HDW.out (k : Int) o0 g W hd hon0 g2 hb
      rw [g3] at hk2
      subst hk2
      exact DC2
    · have h1 := source_any nodes k g 1 W (by omega) (HS.out.below (HB.out.trans (hb.mono HB.out.size)))
      rw [g6] at h1
      exact h1.mono fun e w' ⟨h2, k, h3⟩ => ⟨h2, by rw [h3]; exact below_drawn W k⟩
    · have h1 := source_any nodes k g 2 W (by omega) (HS.out.below (HB.out.trans (hb.mono HB.out.size)))
      rw [g7] at h1
      exact h1.mono fun e w' ⟨h2, k, h3⟩ => ⟨h2, by rw [h3]; exact below_drawn W k⟩
    · have h1 := HPA.out W s1 hb
      rw [(HPO.out (s1 : Int)).1 g8] at h1
      exact h1
    · have h1 := HPA.out W s2 hb
      rw [(HPO.out (s2 : Int)).1 g9] at h1
      exact h1
  have HDG := Lib.hid DG
  have DGu := guards_any (some ⟨b, 0, none⟩) c c.pairs o0 B (HS.out.below HB.out) HNP.out
  have HG0 := Lib.hid (DGu.mono fun e w' ⟨h1, k, h2⟩ => (⟨h1, by rw [h2]; exact below_drawn B k⟩ : _ ∧ Below B.heap.size B w'))
  clear DG DGu
  obtain ⟨G0, hG0⟩ : ∃ G0, G0 = guardF c.pairs c o0 0 := ⟨_, rfl⟩
  obtain ⟨G1, hG1⟩ : ∃ G1, G1 = guardF c.pairs c o0 1 := ⟨_, rfl⟩
  rw [← hG0, ← hG1] at HG0
  have HGa := Lib.hid hG0
  have HGb := Lib.hid hG1
  clear hG0 hG1
  go_wp2_with fail
  refine HG0.out.mono ?_
  rintro e B1 ⟨rfl, hbB1⟩
  have HB1 := Lib.hid hbB1
  clear hbB1 HG0 z0 z1 z3 zr s0
  go_wp2_with fail
  obtain ⟨C0, hC0⟩ : ∃ C0, C0 = B1.alloc (.cells #[.int .i64 G0, .int .i64 G1] 54) := ⟨_, rfl⟩
  rw [← hC0]
  have rl : C0.heap[B1.heap.size]? = some (.cells #[.int .i64 G0, .int .i64 G1] 54 (0, 0)) := by rw [hC0]; exact heap_new _ _ _ rfl
  have HC0 : Hid (Below B.heap.size B C0) := Lib.hid (by rw [hC0]; exact HB1.out.alloc HB1.out.size _)
  obtain ⟨g9, hg9⟩ : ∃ g, g = B1.heap.size := ⟨_, rfl⟩
  rw [← hg9] at rl ⊢
  have HRL := Lib.hid (⟨HC0.out, rl⟩ : _ ∧ _)
  clear hC0 hg9 rl
  go_loopw [10] (fun d wr => ∃ k : Nat, k ≤ 2 ∧ d = .int .u8 k ∧ Hid (Below B.heap.size B wr ∧ wr.heap[g9]? = some (.cells #[.int .i64 G0, .int .i64 G1] 54 (0, 0)))) (fun d _ => 2 - (intOf d).toNat)
  case atStart => exact ⟨0, by omega, rfl, HRL⟩
  case round =>
    obtain ⟨k, hk, rfl, HW⟩ := hrel
    obtain ⟨W0, hW0⟩ : ∃ W0 : World, W0 = wr := ⟨_, rfl⟩
    subst hW0
    obtain ⟨z0, z1, z3, zr, s0⟩ := HKC.out W0 HW.out.1
    by_cases hlt : k < 2
    · obtain ⟨g, s1, s2, r, g1, g2, g3, g4, g5, g6, g7, g8⟩ := HDG.out k hlt
      have cg : W0.cell? ⟨g9, k, none⟩ = some (.int .i64 g) := by
        obtain rfl | rfl : k = 0 ∨ k = 1 := by omega
        · have := heap_cell HW.out.2 0
          rw [HGa.out, show guardF c.pairs c o0 0 = g from g1] at this
          exact this
        · have := heap_cell HW.out.2 1
          rw [HGb.out, show guardF c.pairs c o0 1 = g from g1] at this
          exact this
      have E3 := Lib.hid g3
      have E4 := Lib.hid g4
      have E5 := Lib.hid g5
      have E6 := Lib.hid g6
      have E7 := Lib.hid g7
      have E8 := Lib.hid g8
      clear g1 g3 g4 g5 g6 g7 g8
      have dk : decide ((k : Int) ≤ 1) = true := decide_eq_true (by omega)
      go_wp2_with fail
      refine (E3.out _ HW.out.1).mono ?_
      rintro e W1 ⟨rfl, hb1⟩
      have HW1 := Lib.hid (HW.out.1.trans (hb1.mono HW.out.1.size))
      have HR1 := Lib.hid (row_later HW.out.2 hb1 (Nat.le_refl _))
      clear z0 z1 z3 zr s0 hb1 cg
      go_wp2_with fail
      obtain ⟨V1, hV1⟩ : ∃ V1, V1 = W1.alloc (.cells #[.int .u8 2, .int .i64 2, .int .i64 3, .int .i64 117] 70) := ⟨_, rfl⟩
      rw [← hV1]
      have HV1 : Hid (Below B.heap.size B V1) := Lib.hid (by rw [hV1]; exact HW1.out.alloc HW1.out.size _)
      have HRV : Hid (V1.heap[g9]? = some (.cells #[.int .i64 G0, .int .i64 G1] 54 (0, 0))) := Lib.hid (by rw [hV1]; exact row_later HR1.out ((Below.refl W1.heap.size W1).alloc (Nat.le_refl _) _) (Nat.le_refl _))
      obtain ⟨z0, z1, z3, zr, s0⟩ := HKC.out V1 HV1.out
      clear hV1
      refine (E4.out _ HV1.out).mono ?_
      rintro e V2 ⟨rfl, rfl⟩
      go_wp2_with fail
      refine (E5.out _ HV1.out).mono ?_
      rintro e V2 ⟨rfl, hb2⟩
      have HV2 := Lib.hid (HV1.out.trans (hb2.mono HV1.out.size))
      have HRV2 := Lib.hid (row_later HRV.out hb2 (Nat.le_refl _))
      clear z0 z1 z3 zr s0 hb2
      obtain ⟨z0, z1, z3, zr, s0⟩ := HKC.out V2 HV2.out
      go_wp2_with fail
      refine (E7.out _ HV2.out).mono ?_
      rintro e V3 ⟨rfl, rfl⟩
      go_wp2_with fail
      refine (E6.out _ HV2.out).mono ?_
      rintro e V3 ⟨rfl, hb3⟩
      have HV3 := Lib.hid (HV2.out.trans (hb3.mono HV2.out.size))
      have HRV3 := Lib.hid (row_later HRV2.out hb3 (Nat.le_refl _))
      clear z0 z1 z3 zr s0 hb3
      obtain ⟨z0, z1, z3, zr, s0⟩ := HKC.out V3 HV3.out
      go_wp2_with fail
      refine (E8.out _ HV3.out).mono ?_
      rintro e V4 ⟨rfl, rfl⟩
      have b1 : ((o0 : Int) != (o0 : Int)) = false := by simp
      go_wp2
      go_roundw
      case rel => exact ⟨k + 1, by omega, by go_num, Lib.hid ⟨HV3.out, HRV3.out⟩⟩
      case measure => simp [intOf]; omega
    · have dk : decide ((k : Int) ≤ 1) = false := decide_eq_false (by omega)
      have HWB := Lib.hid HW.out.1
      clear HW z0 z1 z3 zr s0
      go_wp2_with fail
      go_loopw [14, 15] (fun hv i wr => ∃ j : Nat, (j : Int) ≤ nodes ∧ i = .int .i64 j ∧ hv = .int .i64 (cntW c o0 j : Nat) ∧ Hid (Below B.heap.size B wr)) (fun _ i _ => nodes.toNat - (intOf i).toNat)
      case atStart => exact ⟨0, by omega, rfl, rfl, HWB⟩
      case round =>
        clear HWB
        obtain ⟨j, hj, rfl, rfl, HX⟩ := hrel
        obtain ⟨X0, hX0⟩ : ∃ X0 : World, X0 = wr := ⟨_, rfl⟩
        subst hX0
        obtain ⟨z0, z1, z3, zr, s0⟩ := HKC.out X0 HX.out
        by_cases hjl : (j : Int) < nodes
        · obtain ⟨K0, ka0, kb0, hK0, DC0⟩ := HDW.out 0 o0 j X0 (.inl rfl) hon0 hjl HX.out
          have ha := HAI.out o0 hon0
          have DC1 : ∀ W, Below B.heap.size B W → ∃ K1 : Int, 0 ≤ K1 ∧ K1 < nodes ∧ K1 = plG nodes 1 (ps.getD o0 0) j ∧ _ := fun W hb => HDW.out 1 o0 j W (.inr rfl) hon0 hjl hb
          obtain ⟨t, t0, t1, t2, t3⟩ : ∃ t : Bool, (roleF K0 == 1) = t ∧ (roleF (plG nodes 1 (ps.getD o0 0) j) == 1) = t ∧ (pairF c j == (o0 : Int)) = t ∧ cntW c o0 (j + 1) = cntW c o0 j + if t = true then 1 else 0 := by
            have h0 := half_place n4 (.inl rfl) ha.1 ha.2 (show (0 : Int) ≤ j by omega) hjl
            have h1 := half_place n4 (.inr rfl) ha.1 ha.2 (show (0 : Int) ≤ j by omega) hjl
            have h2 := HPO.out (j : Int)
            rw [← hK0] at h0
            by_cases hp : pairF c j = o0
            · refine ⟨true, ?_, ?_, ?_, ?_⟩
              · rw [show roleF K0 = 1 from if_pos (h0.2 (h2.2 hp))]; rfl
              · rw [show roleF (plG nodes 1 (ps.getD o0 0) j) = 1 from if_pos (h1.2 (h2.2 hp))]; rfl
              · simpa using hp
              · simp only [cntW]; rw [if_pos hp]; simp
            · have hn := mt h2.1 hp
              refine ⟨false, ?_, ?_, ?_, ?_⟩
              · have := mt h0.1 hn
                unfold roleF; rw [if_neg this]; split <;> rfl
              · have := mt h1.1 hn
                unfold roleF; rw [if_neg this]; split <;> rfl
              · simpa using hp
              · simp only [cntW]; rw [if_neg hp]; simp
          have HT3 := Lib.hid t3
          have HDC0 := Lib.hid DC0
          have HDC1 := Lib.hid DC1
          have cle := cntW_le c o0 j
          have HPJ : Hid (∀ (W : World) (q : Nat), Below B.heap.size B W → Calls Tryd.prog 39 #[.pointer (some ⟨b, 0, none⟩), .int .i64 (j : Int)] (W.drewN q) fun e w' => e = .returned (.int .i64 (pairF c j)) ∧ W.drewN q = w') := Lib.hid fun W q hb => HPA.out _ _ (below_drewN hb q)
          generalize pairF c j = pr at t2 HPJ
          clear DC0 DC1 t3 hK0 ha
          go_wp2_with fail
          refine HDC0.out.mono ?_
          rintro e X1 ⟨rfl, hb1⟩
          have HX1 := Lib.hid (HX.out.trans (hb1.mono HX.out.size))
          clear z0 z1 z3 zr s0 hb1 HDC0
          go_wp2_with fail
          obtain ⟨V1, hV1⟩ : ∃ V1, V1 = X1.alloc (.cells #[.int .u8 (roleF K0), .int .i64 K0, .int .i64 (1 + K0), .int .i64 (1 + K0 + 114)] 70) := ⟨_, rfl⟩
          rw [← hV1]
          have rv1 : V1.heap[X1.heap.size]? = some (.cells #[.int .u8 (roleF K0), .int .i64 K0, .int .i64 (1 + K0), .int .i64 (1 + K0 + 114)] 70 (0, 0)) := by rw [hV1]; exact heap_new _ _ _ rfl
          have HV1 : Hid (Below B.heap.size B V1) := Lib.hid (by rw [hV1]; exact HX1.out.alloc HX1.out.size _)
          clear hV1
          obtain ⟨K1, ka1, kb1, hK1, D1⟩ := HDC1.out V1 HV1.out
          rw [← hK1] at t1
          clear HDC1 hK1
          refine D1.mono ?_
          rintro e X2 ⟨rfl, hb2⟩
          have HX2 := Lib.hid (HV1.out.trans (hb2.mono HV1.out.size))
          have rv2 := row_later rv1 hb2 (Nat.le_refl _)
          clear hb2 rv1 D1
          go_wp2_with fail
          obtain ⟨V2, hV2⟩ : ∃ V2, V2 = X2.alloc (.cells #[.int .u8 (roleF K1), .int .i64 K1, .int .i64 (1 + K1), .int .i64 (1 + K1 + 114)] 70) := ⟨_, rfl⟩
          rw [← hV2]
          have c1 : V2.cell? ⟨X2.heap.size, 0, none⟩ = some (.int .u8 (roleF K1)) := by rw [hV2]; exact heap_cell (heap_new _ _ _ rfl) 0
          have HV2 : Hid (Below B.heap.size B V2) := Lib.hid (by rw [hV2]; exact HX2.out.alloc HX2.out.size _)
          have c0 : V2.cell? ⟨X1.heap.size, 0, none⟩ = some (.int .u8 (roleF K0)) := by rw [hV2]; exact heap_cell (row_later rv2 ((Below.refl X2.heap.size X2).alloc (Nat.le_refl _) _) (Nat.le_refl _)) 0
          clear hV2 rv2
          generalize roleF K0 = r0 at t0 c0
          generalize roleF K1 = r1 at t1 c1
          cases t
          all_goals
            go_quiet ((go_at_call 39; exact quiet_eq (HPJ.out _ _ HV2.out)))
            go_wp2
            go_roundw
            case rel => exact ⟨j + 1, by omega, by go_num, by rw [HT3.out]; first | rfl | (congr 1; simp), Lib.hid (below_drewN HV2.out _)⟩
            case measure => simp [intOf]; omega
        · have hv : cntW c o0 j = 2 := by
            have := cntW_two HOK.out o0 HOP.out
            rw [HCN.out, show nodes.toNat = j by omega] at this
            exact this
          rw [hv]
          clear hv
          go_wp2_with (go_at_call 46; refine (HL.out _ HX.out).mono ?_; rintro e w' ⟨rfl, hbe⟩)
          go_ret
          exact ⟨rfl, hbe⟩
end Go.Proofs.YtibncdkekceokaaDoor
