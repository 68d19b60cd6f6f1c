/- sennitlaw10.WindowsOf: the walk. -/
import Derived.Test.YtibncdkekceokaaDoorRefGuards
import Derived.Test.YtibncdkekceokaaDoorOpenS
namespace Go.Proofs.YtibncdkekceokaaDoor
open Go.RowKit

theorem run_cfgLoad_past (W : World) (g : Nat) (cs : Array Value) (o : Obj) (h : W.heap[g]? = some (.cells cs 25 (0, 0))) (hs : cs.size = 9) : (cfgLoad (.pointer (some ⟨g, 0, none⟩))).run Tryd.prog (W.alloc o) = .ok (.agg cs) (W.alloc o) :=
  run_cfgLoad _ _ _ ((heap_alloc_old _ _ (Array.getElem?_eq_some_iff.1 h).1).trans h) hs
theorem run_winLoad_past (W : World) (g : Nat) (cs : Array Value) (o : Obj) (h : W.heap[g]? = some (.cells cs 70 (0, 0))) (hs : cs.size = 4) : (winLoad (.pointer (some ⟨g, 0, none⟩))).run Tryd.prog (W.alloc o) = .ok (.agg cs) (W.alloc o) :=
  run_winLoad _ _ _ ((heap_alloc_old _ _ (Array.getElem?_eq_some_iff.1 h).1).trans h) hs
def rwinLoad (v : Value) : Sem Value := Instr.loadAt 76 v
theorem rwinLoad_eq (v : Value) : Instr.loadAt 76 v = rwinLoad v := rfl
theorem run_rwinLoad (W : World) (g : Nat) (cs : Array Value) (h : W.heap[g]? = some (.cells cs 76 (0, 0))) (hs : cs.size = 4) : (rwinLoad (.pointer (some ⟨g, 0, none⟩))).run Tryd.prog W = .ok (.agg cs) W :=
  load_block' W g _ _ cs (0, 0) _ Tryd.underlying76 rfl (by rw [hs]; kernel_rfl) h
theorem run_rwinLoad_new (w : World) (cs : Array Value) (hs : cs.size = 4) : (rwinLoad (.pointer (some ⟨w.heap.size, 0, none⟩))).run Tryd.prog (w.alloc (.cells cs 76)) = .ok (.agg cs) (w.alloc (.cells cs 76)) := run_rwinLoad _ _ _ (heap_new _ _ _ rfl) hs
attribute [local go_sem ↓ high] cfgLoad_eq winLoad_eq rwinLoad_eq
attribute [local go_sem high] run_cfgLoad run_cfgLoad_new2 run_cfgLoad_past run_winLoad run_winLoad_new run_winLoad_past run_rwinLoad run_rwinLoad_new
theorem place_bad {c : Cfg} (h : CfgOK c) {d o i : Int} (hb : ¬ (d ≤ 1 ∧ 0 ≤ o ∧ o < c.ps.length ∧ 0 ≤ i ∧ i < c.nodes)) : placeF c.nodes d (fromL c.pairs c.ps o) i = -1 := by
  have hneg : nodeB c.nodes (-1) = false := by unfold nodeB; exact decide_eq_false (by omega)
  have hst : stepF c.nodes 0 (-1) 1 = -1 := by unfold stepF; rw [if_neg (by rw [hneg]; simp)]
  unfold placeF distF
  rw [if_neg]
  rintro ⟨h1, h2, h3⟩
  have q1 := (ringB_true h1).2.2
  have q3 := nodeB_true h3
  have ho : ¬ (0 ≤ o ∧ o < c.ps.length) := fun ho => hb ⟨q1, ho.1, ho.2, q3.1, q3.2⟩
  rw [first_none h o ho, hst] at h2
  have : nodeB c.nodes (-1) = true := by revert h2; split <;> exact id
  rw [hneg] at this
  cases this
theorem win_bad {c : Cfg} (h : CfgOK c) {d o i : Int} (hb : ¬ (d ≤ 1 ∧ 0 ≤ o ∧ o < c.ps.length ∧ 0 ≤ i ∧ i < c.nodes)) : winF c.pairs c d o i = ⟨0, 0, 0, 0⟩ ∧ winE c.pairs c d o i = 1 := by
  unfold winF winE
  rw [place_bad h hb, if_pos (.inr (by omega)), if_neg (round_ne h), if_pos (by omega)]
  exact ⟨rfl, rfl⟩
theorem same_any (r p b e : Int) (h0 : 0 ≤ r) (h1 : r ≤ 255) (w : World) : Calls Tryd.prog 50 #[.agg #[.int .u8 r, .int .i64 p, .int .i64 b, .int .i64 e], .agg #[.int .i64 r, .int .i64 p, .int .i64 b, .int .i64 e]] w fun en w' => en = .returned (.bool true) ∧ Below w.heap.size w w' :=
  PWindowsOf.sennitlaw10_Same.calls r p b e r p b e true w (by
    unfold PWindowsOf.sennitlaw10_Same.f
    have e1 : wrap64 r = r := by unfold wrap64; omega
    rw [e1, if_pos rfl, if_pos rfl, if_pos rfl]
    simp)
theorem refat_any (r p b e x : Int) (b0 : 0 ≤ b) (e1 : e ≤ 1000) (be : b ≤ e) (w : World) : Calls Tryd.prog 52 #[.agg #[.int .i64 r, .int .i64 p, .int .i64 b, .int .i64 e], .int .i64 x] w fun en w' => en = .returned (.tuple #[.int .i64 (tickF b e x), .bool (openB b e x)]) ∧ Below w.heap.size w w' :=
  PWindowsOf.sennitref10_At.calls 1001 r p b e x _ _ w (refat_f b0 e1 be)
set_option maxRecDepth 100000 in
set_option maxHeartbeats 8000000 in
theorem windowsOf_walk (nodes long miss good fresh : Int) (pa sa ba ta : Option Addr) (pn pc sn sc bn bc tn tc : Nat) (ps ss bs : List Int) (ts : List (Int × Int × Int)) (x0 x1 x2 x3 : Int) (s : Nat) (xb : I64 x0 ∧ I64 x1 ∧ I64 x2 ∧ I64 x3) (_sb : s ≤ 255) (w : World) (hs : Signs w) (hr : Roles w) (hC : CfgIn w nodes long miss good fresh pa sa ba ta pn pc sn sc bn bc tn tc ps ss bs ts) :
    Calls Tryd.prog 12 #[.agg #[.int .i64 nodes, .slice pa pn pc, .slice sa sn sc, .int .i64 long, .slice ba bn bc, .slice ta tn tc, .int .i64 miss, .int .i64 good, .int .i64 fresh], .agg #[.int .i64 x0, .int .i64 x1, .int .i64 x2, .int .i64 x3], .int .u8 s] w fun e w' => e = .returned (.bool true) ∧ Below w.heap.size w w' := by
  have hb0 := ((Below.refl w.heap.size w).alloc (Nat.le_refl _) (.cells #[.int .i64 nodes, .slice pa pn pc, .slice sa sn sc, .int .i64 long, .slice ba bn bc, .slice ta tn tc, .int .i64 miss, .int .i64 good, .int .i64 fresh] 25)).alloc (by simp) (.cells #[.int .i64 x0, .int .i64 x1, .int .i64 x2, .int .i64 x3] 74)
  have rc : ((w.alloc (.cells #[.int .i64 nodes, .slice pa pn pc, .slice sa sn sc, .int .i64 long, .slice ba bn bc, .slice ta tn tc, .int .i64 miss, .int .i64 good, .int .i64 fresh] 25)).alloc (.cells #[.int .i64 x0, .int .i64 x1, .int .i64 x2, .int .i64 x3] 74)).heap[w.heap.size]? = some (.cells #[.int .i64 nodes, .slice pa pn pc, .slice sa sn sc, .int .i64 long, .slice ba bn bc, .slice ta tn tc, .int .i64 miss, .int .i64 good, .int .i64 fresh] 25 (0, 0)) := heap_alloc2_old w _ _
  have rx : ((w.alloc (.cells #[.int .i64 nodes, .slice pa pn pc, .slice sa sn sc, .int .i64 long, .slice ba bn bc, .slice ta tn tc, .int .i64 miss, .int .i64 good, .int .i64 fresh] 25)).alloc (.cells #[.int .i64 x0, .int .i64 x1, .int .i64 x2, .int .i64 x3] 74)).heap[w.heap.size + 1]? = some (.cells #[.int .i64 x0, .int .i64 x1, .int .i64 x2, .int .i64 x3] 74 (0, 0)) := heap_new _ _ _ (by simp)
  have hN := net06_any nodes long miss good fresh pa sa ba ta pn pc sn sc bn bc tn tc ps ss bs ts _ (hs.below hb0) (hC.below hb0)
  obtain ⟨c, hc⟩ : ∃ c, c = Cfg.mk nodes long miss good fresh ps ss bs ts := ⟨_, rfl⟩
  have HCC := Lib.hid hc
  rw [← hc] at hN
  have HS := Lib.hid hs
  have HR := Lib.hid hr
  have HC := Lib.hid hC
  have HB0 := Lib.hid hb0
  have HN := Lib.hid hN
  have HRC := Lib.hid rc
  have HRX := Lib.hid rx
  have HPL := Lib.hid hC.rp.len
  clear hs hr hb0 hc hN rc hC rx
  go_enter Tryd.func12, Tryd.ntmps12
  go_wp2_with fail
  refine HN.out.mono ?_
  rintro e B ⟨hP, hbB⟩
  have HB := Lib.hid (HB0.out.trans (hbB.mono (by simp; try omega)))
  have rc := row_later HRC.out hbB (by simp)
  have rx := row_later HRX.out hbB (by simp)
  have hl : ∀ W, Below B.heap.size B W → Calls Tryd.prog 46 #[] W fun e w' => e = .returned (.bool true) ∧ Below w.heap.size w w' := fun W hb => by
    have h1 := HB.out.trans (hb.mono HB.out.size)
    exact (lives10_any W (HS.out.below h1) (HR.out.below h1)).mono fun e w' ⟨h2, h3⟩ => ⟨h2, h1.trans (h3.mono h1.size)⟩
  have HL := Lib.hid hl
  clear hbB hl
  rcases hP with rfl | ⟨b, rfl, he, hNP⟩
  · go_wp2_with (go_at_call 46; refine (HL.out _ (Below.refl _ _)).mono ?_; rintro e w' ⟨rfl, hbe⟩)
    go_ret
    exact ⟨rfl, hbe⟩
  have HE := Lib.hid he
  have HOK := Lib.hid (Cfg.ok he)
  have HNP := Lib.hid hNP
  clear he hNP
  have KC : ∀ W, Below B.heap.size B W → W.cell? ⟨w.heap.size, 0, none⟩ = some (.int .i64 nodes) ∧ W.cell? ⟨w.heap.size, 1, none⟩ = some (.slice pa pn pc) ∧ W.cell? ⟨w.heap.size, 3, none⟩ = some (.int .i64 long) ∧ W.heap[w.heap.size]? = some (.cells #[.int .i64 nodes, .slice pa pn pc, .slice sa sn sc, .int .i64 long, .slice ba bn bc, .slice ta tn tc, .int .i64 miss, .int .i64 good, .int .i64 fresh] 25 (0, 0)) ∧ w.heap.size < W.heap.size ∧ W.cell? ⟨w.heap.size + 1, 0, none⟩ = some (.int .i64 x0) ∧ W.cell? ⟨w.heap.size + 1, 1, none⟩ = some (.int .i64 x1) ∧ W.cell? ⟨w.heap.size + 1, 2, none⟩ = some (.int .i64 x2) ∧ W.cell? ⟨w.heap.size + 1, 3, none⟩ = some (.int .i64 x3) ∧ w.heap.size + 1 < W.heap.size := fun W hb => by
    have h1 := row_later rc hb (Nat.le_refl _)
    have h2 := row_later rx hb (Nat.le_refl _)
    exact ⟨heap_cell h1 0, heap_cell h1 1, heap_cell h1 3, h1, (Array.getElem?_eq_some_iff.1 h1).1, heap_cell h2 0, heap_cell h2 1, heap_cell h2 2, heap_cell h2 3, (Array.getElem?_eq_some_iff.1 h2).1⟩
  have HKC := Lib.hid KC
  obtain ⟨z0, z1, z3, zr, s0, y0, y1, y2, y3, s1⟩ := KC B (Below.refl _ _)
  have n4 : 4 ≤ nodes := by have := HOK.out.n4; rw [HCC.out] at this; exact this
  have n16 : nodes ≤ 16 := by have := HOK.out.n16; rw [HCC.out] at this; exact this
  have p2 : 2 ≤ pn := by have := HOK.out.p2; rw [HCC.out] at this; have := HPL.out; simp only at *; omega
  have p8 : pn ≤ 8 := by have := HOK.out.p8; rw [HCC.out] at this; have := HPL.out; simp only at *; omega
  have l1 : nodes + 116 ≤ long := by have := HOK.out.l1; rw [HCC.out] at this; simp only at *; omega
  have l2 : long ≤ 4096 := by have := HOK.out.l2; rw [HCC.out] at this; exact this
  have n0 : ¬ nodes = 0 := by omega
  have n0' : (nodes == 0) = false := by simpa using n0
  have m0 : ¬ pn = 0 := by omega
  have m0' : ((pn : Int) == 0) = false := by simp; omega
  have HCN : Hid (c.nodes = nodes) := Lib.hid (by rw [HCC.out])
  have HCP : Hid (c.ps = ps) := Lib.hid (by rw [HCC.out])
  have DW : ∀ (d : Int) (o i : Nat) W, (d = 0 ∨ d = 1) → (o : Int) < pn → (i : Int) < nodes → Below B.heap.size B W → ∃ k : Int, 0 ≤ k ∧ k < nodes ∧ k = plG nodes d (ps.getD o 0) i ∧ Calls Tryd.prog 48 #[.pointer (some ⟨b, 0, none⟩), .int .u8 d, .int .i64 o, .int .i64 i] W fun e w' => e = .returned (.tuple #[.agg #[.int .u8 (roleF k), .int .i64 k, .int .i64 (1 + k), .int .i64 (1 + k + 114)], .int .i64 0]) ∧ Below W.heap.size W w' := fun d o i W hd ho hi hb => by
    have hop : o < c.ps.length := by rw [HCC.out]; show o < ps.length; have := HPL.out; omega
    have hcn : c.nodes = nodes := HCN.out
    have hg : c.ps[o] = ps.getD o 0 := by
      have : c.ps = ps := HCP.out
      rw [List.getD_eq_getElem?_getD, ← this, List.getElem?_eq_getElem hop]; rfl
    have hin := first_in HOK.out o hop
    have hw := win_of HOK.out d hd o hop i (by omega) (by omega)
    have h1 := HB.out.trans (hb.mono HB.out.size)
    have h := winof_any (some ⟨b, 0, none⟩) c c.pairs d o i (by omega) W (HS.out.below h1) (HR.out.below h1) (HNP.out.below hb) (rq_ok HOK.out)
    rw [hw.1, hw.2] at h
    have hk := plG_in (d := d) hin.1 hin.2 (show (0 : Int) ≤ i by omega) (by omega)
    rw [hcn, hg] at hk
    rw [hcn, hg] at h
    exact ⟨_, hk.1, hk.2, rfl, h⟩
  have AIN : ∀ o : Nat, (o : Int) < pn → 0 ≤ ps.getD o 0 ∧ ps.getD o 0 < nodes := fun o ho => by
    have hol : o < ps.length := by have := HPL.out; omega
    have := HOK.out.pin (ps.getD o 0) (by rw [HCP.out, List.getD_eq_getElem?_getD, List.getElem?_eq_getElem hol]; exact List.getElem_mem _)
    rw [HCN.out] at this
    exact this
  have HAI := Lib.hid AIN
  have HDW := Lib.hid DW
  clear DW KC rc AIN rx
  have HOF : ∀ dn : Int, 0 ≤ dn → ∃ r p b' e er : Int, (0 ≤ r ∧ r ≤ 255) ∧ (0 ≤ b' ∧ b' ≤ e ∧ e ≤ 1000) ∧
      (∀ W, Below B.heap.size B W → Calls Tryd.prog 48 #[.pointer (some ⟨b, 0, none⟩), .int .u8 dn, .int .i64 x1, .int .i64 x2] W fun en w' => en = .returned (.tuple #[.agg #[.int .u8 r, .int .i64 p, .int .i64 b', .int .i64 e], .int .i64 er]) ∧ Below W.heap.size W w') ∧
      (∀ W, Below B.heap.size B W → Calls Tryd.prog 49 #[.agg #[.int .i64 nodes, .slice pa pn pc, .slice sa sn sc, .int .i64 long, .slice ba bn bc, .slice ta tn tc, .int .i64 miss, .int .i64 good, .int .i64 fresh], .int .u8 dn, .int .i64 x1, .int .i64 x2] W fun en w' => en = .returned (.tuple #[.agg #[.int .i64 r, .int .i64 p, .int .i64 b', .int .i64 e], .int .i64 er]) ∧ Below W.heap.size W w') := fun dn hdn => by
    have hcn : c.nodes = nodes := HCN.out
    have hcp : c.ps = ps := HCP.out
    have hcl : c.ps.length = ps.length := by rw [hcp]
    by_cases hv : dn ≤ 1 ∧ 0 ≤ x1 ∧ x1 < ps.length ∧ 0 ≤ x2 ∧ x2 < nodes
    · obtain ⟨o, rfl⟩ : ∃ o : Nat, x1 = o := ⟨x1.toNat, by omega⟩
      obtain ⟨i, rfl⟩ : ∃ i : Nat, x2 = i := ⟨x2.toNat, by omega⟩
      have hd : dn = 0 ∨ dn = 1 := by omega
      have ho : (o : Int) < pn := by have := HPL.out; omega
      have ha := HAI.out o ho
      have hk := plG_in (d := dn) ha.1 ha.2 (show (0 : Int) ≤ i by omega) hv.2.2.2.2
      refine ⟨roleF (plG nodes dn (ps.getD o 0) i), plG nodes dn (ps.getD o 0) i, 1 + plG nodes dn (ps.getD o 0) i, 1 + plG nodes dn (ps.getD o 0) i + 114, 0, ?_, ⟨by omega, by omega, by omega⟩, fun W hb => ?_, fun W hb => ?_⟩
      · unfold roleF; (repeat' split) <;> omega
      · obtain ⟨k, _, _, hk2, DC⟩ := HDW.out dn o i W hd ho hv.2.2.2.2 hb
        subst hk2
        exact DC
      · exact refof_any nodes long miss good fresh pa sa ba ta pn pc sn sc bn bc tn tc ps ss bs ts W (HC.out.below (HB.out.trans (hb.mono HB.out.size))) _ _ _ _ _ _ _ _ 30 (of_good nodes ps ss long bs (ts.map toSw) miss good fresh 30 (by omega) n4 n16 hd o (by omega) ha.1 ha.2 (i : Int) (by omega) hv.2.2.2.2)
    · refine ⟨0, 0, 0, 0, 1, by omega, by omega, fun W hb => ?_, fun W hb => ?_⟩
      · have h1 := HB.out.trans (hb.mono HB.out.size)
        have h := winof_any (some ⟨b, 0, none⟩) c c.pairs dn x1 x2 hdn W (HS.out.below h1) (HR.out.below h1) (HNP.out.below hb) (rq_ok HOK.out)
        have hw := win_bad HOK.out (d := dn) (o := x1) (i := x2) (by rw [hcl, hcn]; exact hv)
        rw [hw.1, hw.2] at h
        exact h
      · exact refof_any nodes long miss good fresh pa sa ba ta pn pc sn sc bn bc tn tc ps ss bs ts W (HC.out.below (HB.out.trans (hb.mono HB.out.size))) _ _ _ _ _ _ _ _ 30 (of_bad nodes ps ss long bs (ts.map toSw) miss good fresh 30 (by omega) hv)
  have HOFH := Lib.hid HOF
  clear HOF
  obtain ⟨r, p, b', e', er, ⟨r0, r1⟩, ⟨b0, be, e1⟩, DA, DB⟩ := HOFH.out (x0 % 256) (by omega)
  have HDA := Lib.hid DA
  have HDB := Lib.hid DB
  have a0 := HAI.out 0 (by omega)
  have HGU : Hid (∀ W, Below B.heap.size B W → Calls Tryd.prog 53 #[.pointer (some ⟨b, 0, none⟩), .int .i64 x1] W fun e w' => e = .returned (.tuple #[.int .i64 (guardF c.pairs c x1 0), .int .i64 (guardF c.pairs c x1 1)]) ∧ Below W.heap.size W w') := Lib.hid fun W hb =>
    (guards_any (some ⟨b, 0, none⟩) c c.pairs x1 W (HS.out.below (HB.out.trans (hb.mono HB.out.size))) (HNP.out.below hb)).mono fun e w' ⟨h1, k, h2⟩ => ⟨h1, by rw [h2]; exact below_drawn W k⟩
  have HGR : Hid (∀ W, Below B.heap.size B W → Calls Tryd.prog 54 #[.agg #[.int .i64 nodes, .slice pa pn pc, .slice sa sn sc, .int .i64 long, .slice ba bn bc, .slice ta tn tc, .int .i64 miss, .int .i64 good, .int .i64 fresh], .int .i64 x1] W fun e w' => e = .returned (.tuple #[.int .i64 (guardF c.pairs c x1 0), .int .i64 (guardF c.pairs c x1 1)]) ∧ Below W.heap.size W w') := Lib.hid fun W hb =>
    refguards_any nodes long miss good fresh pa sa ba ta pn pc sn sc bn bc tn tc ps ss bs ts x1 c HCC.out HOK.out W (HC.out.below (HB.out.trans (hb.mono HB.out.size)))
  obtain ⟨G0, hG0⟩ : ∃ G0, G0 = guardF c.pairs c x1 0 := ⟨_, rfl⟩
  obtain ⟨G1, hG1⟩ : ∃ G1, G1 = guardF c.pairs c x1 1 := ⟨_, rfl⟩
  rw [← hG0, ← hG1] at HGU HGR
  have HOV : Hid (∀ W, Below B.heap.size B W → Calls Tryd.prog 47 #[.pointer (some ⟨b, 0, none⟩)] W fun e w' => e = .returned (.int .i64 (nodes + 114)) ∧ Below W.heap.size W w') := Lib.hid fun W hb => by
    have h := over_any (some ⟨b, 0, none⟩) c c.pairs W (HNP.out.below hb) (rq_ok HOK.out) (by have h1 := HOK.out.n4; have h2 := HOK.out.n16; omega)
    rw [show overF c.pairs c = nodes + 114 by unfold overF; rw [if_neg (round_ne HOK.out), HCN.out]] at h
    exact h.mono fun e w' ⟨h1, k, h2⟩ => ⟨h1, by rw [h2]; exact below_drawn W k⟩
  have HRV : Hid (∀ W, Below B.heap.size B W → Calls Tryd.prog 56 #[.agg #[.int .i64 nodes, .slice pa pn pc, .slice sa sn sc, .int .i64 long, .slice ba bn bc, .slice ta tn tc, .int .i64 miss, .int .i64 good, .int .i64 fresh]] W fun e w' => e = .returned (.int .i64 (nodes + 114)) ∧ Below W.heap.size W w') := Lib.hid fun W hb =>
    refover_any nodes long miss good fresh pa sa ba ta pn pc sn sc bn bc tn tc ps ss bs ts W (HC.out.below (HB.out.trans (hb.mono HB.out.size))) n4 n16 (by have := HPL.out; omega) a0.1 a0.2
  obtain ⟨op, hop⟩ : ∃ op, op = openB b' e' x3 := ⟨_, rfl⟩
  obtain ⟨tk, htk⟩ : ∃ tk, tk = tickF b' e' x3 := ⟨_, rfl⟩
  have HAT : Hid (∀ W, Calls Tryd.prog 51 #[.agg #[.int .u8 r, .int .i64 p, .int .i64 b', .int .i64 e'], .int .i64 x3] W fun en w' => en = .returned (.tuple #[.int .i64 tk, .bool op]) ∧ Below W.heap.size W w') := Lib.hid fun W => by
    rw [hop, htk]; exact winat_any r p b' e' x3 b0 (by omega) W
  have HRT : Hid (∀ W, Calls Tryd.prog 52 #[.agg #[.int .i64 r, .int .i64 p, .int .i64 b', .int .i64 e'], .int .i64 x3] W fun en w' => en = .returned (.tuple #[.int .i64 tk, .bool op]) ∧ Below W.heap.size W w') := Lib.hid fun W => by
    rw [hop, htk]; exact refat_any r p b' e' x3 b0 e1 be W
  have HPS : Hid (∀ W, Calls Tryd.prog 55 #[.agg #[.int .u8 r, .int .i64 p, .int .i64 b', .int .i64 e'], .int .i64 x3, .int .u8 s] W fun en w' => en = .returned (.int .u8 (if op = true then (s : Int) else 0)) ∧ Below W.heap.size W w') := Lib.hid fun W => by
    rw [hop]; exact winpass_any r p b' e' x3 s b0 (by omega) W
  have HSM : Hid (∀ W, Calls Tryd.prog 50 #[.agg #[.int .u8 r, .int .i64 p, .int .i64 b', .int .i64 e'], .agg #[.int .i64 r, .int .i64 p, .int .i64 b', .int .i64 e']] W fun en w' => en = .returned (.bool true) ∧ Below W.heap.size W w') := Lib.hid fun W => same_any r p b' e' r0 r1 W
  clear DA DB hop htk hG0 hG1 a0
  go_wp2_with fail
  refine (HDA.out _ (Below.refl _ _)).mono ?_
  rintro e W1 ⟨rfl, hb1⟩
  have HW1 := Lib.hid hb1
  clear z0 z1 z3 zr s0 y0 y1 y2 y3 s1 hb1
  obtain ⟨z0, z1, z3, zr, s0, y0, y1, y2, y3, s1⟩ := HKC.out W1 HW1.out
  go_wp2_with fail
  obtain ⟨V1, hV1⟩ : ∃ V1, V1 = W1.alloc (.cells #[.int .u8 r, .int .i64 p, .int .i64 b', .int .i64 e'] 70) := ⟨_, rfl⟩
  rw [← hV1]
  have rv1 : V1.heap[W1.heap.size]? = some (.cells #[.int .u8 r, .int .i64 p, .int .i64 b', .int .i64 e'] 70 (0, 0)) := by rw [hV1]; exact heap_new _ _ _ rfl
  have HV1 : Hid (Below B.heap.size B V1) := Lib.hid (by rw [hV1]; exact HW1.out.alloc HW1.out.size _)
  obtain ⟨g9, hg9⟩ : ∃ g, g = W1.heap.size := ⟨_, rfl⟩
  rw [← hg9] at rv1 ⊢
  clear hV1 z0 z1 z3 zr s0 y0 y1 y2 y3 s1 hg9
  obtain ⟨z0, z1, z3, zr, s0, y0, y1, y2, y3, s1⟩ := HKC.out V1 HV1.out
  first | rw [run_cfgLoad V1 w.heap.size _ zr rfl] | skip
  go_wp2_with fail
  refine (HDB.out V1 HV1.out).mono ?_
  rintro e W2 ⟨rfl, hb2⟩
  have HW2 := Lib.hid (HV1.out.trans (hb2.mono HV1.out.size))
  have rw2 := row_later rv1 hb2 (Nat.le_refl _)
  clear hb2 rv1 z0 z1 z3 zr s0 y0 y1 y2 y3 s1
  go_wp2_with fail
  obtain ⟨V2, hV2⟩ : ∃ V2, V2 = W2.alloc (.cells #[.int .i64 r, .int .i64 p, .int .i64 b', .int .i64 e'] 76) := ⟨_, rfl⟩
  rw [← hV2]
  have HV2 : Hid (Below B.heap.size B V2) := Lib.hid (by rw [hV2]; exact HW2.out.alloc HW2.out.size _)
  have rv9 : V2.heap[g9]? = some (.cells #[.int .u8 r, .int .i64 p, .int .i64 b', .int .i64 e'] 70 (0, 0)) := by rw [hV2]; exact row_later rw2 ((Below.refl W2.heap.size W2).alloc (Nat.le_refl _) _) (Nat.le_refl _)
  have rv11 : V2.heap[W2.heap.size]? = some (.cells #[.int .i64 r, .int .i64 p, .int .i64 b', .int .i64 e'] 76 (0, 0)) := by rw [hV2]; exact heap_new _ _ _ rfl
  obtain ⟨g11, hg11⟩ : ∃ g, g = W2.heap.size := ⟨_, rfl⟩
  rw [← hg11] at rv11 ⊢
  clear hV2 rw2 hg11
  have K2 : ∀ W, Below V2.heap.size V2 W → Below B.heap.size B W ∧ W.heap[g9]? = some (.cells #[.int .u8 r, .int .i64 p, .int .i64 b', .int .i64 e'] 70 (0, 0)) ∧ W.heap[g11]? = some (.cells #[.int .i64 r, .int .i64 p, .int .i64 b', .int .i64 e'] 76 (0, 0)) := fun W hb => ⟨HV2.out.trans (hb.mono HV2.out.size), row_later rv9 hb (Nat.le_refl _), row_later rv11 hb (Nat.le_refl _)⟩
  have HK2 := Lib.hid K2
  clear K2
  first | rw [run_winLoad V2 g9 _ rv9 rfl] | skip
  go_wp2_with fail
  first | rw [run_rwinLoad V2 g11 _ rv11 rfl] | skip
  go_wp2_with fail
  clear rv9 rv11
  refine (HSM.out V2).mono ?_
  rintro e W3 ⟨rfl, hb3⟩
  have HW3 := Lib.hid hb3
  obtain ⟨q0, q1, q2⟩ := HK2.out W3 hb3
  obtain ⟨z0, z1, z3, zr, s0, y0, y1, y2, y3, s1⟩ := HKC.out W3 q0
  clear hb3 q0
  go_wp2_with fail
  refine (HAT.out W3).mono ?_
  rintro e W4 ⟨rfl, hb4⟩
  clear z0 z1 z3 zr s0 y0 y1 y2 y3 s1 q1 q2
  have HW4 := Lib.hid (HW3.out.trans (hb4.mono HW3.out.size))
  obtain ⟨q0, q1, q2⟩ := HK2.out W4 HW4.out
  obtain ⟨z0, z1, z3, zr, s0, y0, y1, y2, y3, s1⟩ := HKC.out W4 q0
  clear hb4 q0
  go_wp2_with fail
  refine (HRT.out W4).mono ?_
  rintro e W5 ⟨rfl, hb5⟩
  clear z0 z1 z3 zr s0 y0 y1 y2 y3 s1 q1 q2
  have HW5 := Lib.hid (HW4.out.trans (hb5.mono HW4.out.size))
  obtain ⟨q0, q1, q2⟩ := HK2.out W5 HW5.out
  obtain ⟨z0, z1, z3, zr, s0, y0, y1, y2, y3, s1⟩ := HKC.out W5 q0
  have HQ5 := Lib.hid q0
  clear hb5 q0
  have HLV : Hid (∀ W, Below V2.heap.size V2 W → Calls Tryd.prog 46 #[] W fun e w' => e = .returned (.bool true) ∧ Below V2.heap.size V2 w') := Lib.hid fun W hb => by
    have h1 := HB.out.trans ((HK2.out W hb).1.mono HB.out.size)
    exact (lives10_any W (HS.out.below h1) (HR.out.below h1)).mono fun e w' ⟨h2, h3⟩ => ⟨h2, hb.trans (h3.mono hb.size)⟩
  cases op
  all_goals
    simp only [if_true, if_false, Bool.false_eq_true] at HPS
    go_wp2_with fail
    refine (HGU.out W5 HQ5.out).mono ?_
    rintro e W6 ⟨rfl, hb6⟩
    clear z0 z1 z3 zr s0 y0 y1 y2 y3 s1 q1 q2
    have HW6 := Lib.hid (HW5.out.trans (hb6.mono HW5.out.size))
    obtain ⟨q0, q1, q2⟩ := HK2.out W6 HW6.out
    obtain ⟨z0, z1, z3, zr, s0, y0, y1, y2, y3, s1⟩ := HKC.out W6 q0
    have HQ6 := Lib.hid q0
    clear hb6 q0
    go_wp2_with fail
    first | rw [run_cfgLoad W6 w.heap.size _ zr rfl] | skip
    go_wp2_with fail
    refine (HGR.out W6 HQ6.out).mono ?_
    rintro e W7 ⟨rfl, hb7⟩
    clear z0 z1 z3 zr s0 y0 y1 y2 y3 s1 q1 q2
    have HW7 := Lib.hid (HW6.out.trans (hb7.mono HW6.out.size))
    clear hb7
    have KP : ∀ W, Below V2.heap.size V2 W → W.heap[w.heap.size]? = some (.cells #[.int .i64 nodes, .slice pa pn pc, .slice sa sn sc, .int .i64 long, .slice ba bn bc, .slice ta tn tc, .int .i64 miss, .int .i64 good, .int .i64 fresh] 25 (0, 0)) ∧ W.heap[g9]? = some (.cells #[.int .u8 r, .int .i64 p, .int .i64 b', .int .i64 e'] 70 (0, 0)) ∧ W.cell? ⟨w.heap.size + 1, 3, none⟩ = some (.int .i64 x3) := fun W hb => by
      have h1 := HK2.out W hb
      have h2 := HKC.out W h1.1
      exact ⟨h2.2.2.2.1, h1.2.1, h2.2.2.2.2.2.2.2.2.1⟩
    have EP : ∀ W, Below V2.heap.size V2 W → Calls Tryd.prog 55 #[.agg #[.int .u8 r, .int .i64 p, .int .i64 b', .int .i64 e'], .int .i64 x3, .int .u8 s] W fun en w' => en = .returned (.int .u8 _) ∧ Below V2.heap.size V2 w' := fun W hb => (HPS.out W).mono fun e w' ⟨h1, h2⟩ => ⟨h1, hb.trans (h2.mono hb.size)⟩
    have EO : ∀ W, Below V2.heap.size V2 W → Calls Tryd.prog 47 #[.pointer (some ⟨b, 0, none⟩)] W fun e w' => e = .returned (.int .i64 (nodes + 114)) ∧ Below V2.heap.size V2 w' := fun W hb => (HOV.out W (HK2.out W hb).1).mono fun e w' ⟨h1, h2⟩ => ⟨h1, hb.trans (h2.mono hb.size)⟩
    have ER : ∀ W, Below V2.heap.size V2 W → Calls Tryd.prog 56 #[.agg #[.int .i64 nodes, .slice pa pn pc, .slice sa sn sc, .int .i64 long, .slice ba bn bc, .slice ta tn tc, .int .i64 miss, .int .i64 good, .int .i64 fresh]] W fun e w' => e = .returned (.int .i64 (nodes + 114)) ∧ Below V2.heap.size V2 w' := fun W hb => (HRV.out W (HK2.out W hb).1).mono fun e w' ⟨h1, h2⟩ => ⟨h1, hb.trans (h2.mono hb.size)⟩
    have HEP := Lib.hid EP
    have HEO := Lib.hid EO
    have HER := Lib.hid ER
    have HKP := Lib.hid KP
    have wn : IntKind.i64.wrap (nodes + 114) = nodes + 114 := by rw [IntKind.wrap_i64]; omega
    clear EP EO ER KP
    go_wp2_with fail
    go_region_held3 (fun W => W.heap[w.heap.size]? = some (.cells #[.int .i64 nodes, .slice pa pn pc, .slice sa sn sc, .int .i64 long, .slice ba bn bc, .slice ta tn tc, .int .i64 miss, .int .i64 good, .int .i64 fresh] 25 (0, 0)) ∧ W.heap[g9]? = some (.cells #[.int .u8 r, .int .i64 p, .int .i64 b', .int .i64 e'] 70 (0, 0)) ∧ W.cell? ⟨w.heap.size + 1, 3, none⟩ = some (.int .i64 x3)) (first | exact HKP.out _ HW7.out | exact HKP.out _ hp8 | exact HKP.out _ ho8 | exact HKP.out _ hr8 | exact HKP.out _ hl8 | exact HKP.out _ HW7.out.drew | fail) (first | (go_at_call 55; refine (HEP.out _ (by first | exact HW7.out | exact HW7.out.drew)).mono ?_; rintro e w8 ⟨rfl, hp8⟩) | (go_at_call 47; refine (HEO.out _ hp8).mono ?_; rintro e w8 ⟨rfl, ho8⟩) | (go_at_call 56; refine (HER.out _ ho8).mono ?_; rintro e w8 ⟨rfl, hr8⟩) | (go_at_call 46; refine (HLV.out _ hr8).mono ?_; rintro e w8 ⟨rfl, hl8⟩) | fail)
    go_wp2
    go_ret
    exact ⟨rfl, HB.out.trans ((HV2.out.trans (hl8.mono HV2.out.size)).mono HB.out.size)⟩
end Go.Proofs.YtibncdkekceokaaDoor
