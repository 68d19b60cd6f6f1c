/- Layer 10: the table of roles; a node's window; which tick of it a place is; what passes; an owner's guards; when all is over. -/
import Derived.Test.YtibncdkekceokaaDoorNet2
namespace Go.Proofs.YtibncdkekceokaaDoor
open Go.RowKit

/-- The table of roles reads as it was laid. -/
structure Roles (w : World) : Prop where
  r0 : w.cell? ⟨2, 0, none⟩ = some (.int .u8 1)
  r1 : w.cell? ⟨2, 1, none⟩ = some (.int .u8 1)
  r2 : w.cell? ⟨2, 2, none⟩ = some (.int .u8 2)
  lt : 2 < w.heap.size
theorem Roles.below {w w' : World} (h : Roles w) (hb : Below w.heap.size w w') : Roles w' :=
  ⟨(hb.cell (p := ⟨2, 0, none⟩) h.lt).trans h.r0, (hb.cell (p := ⟨2, 1, none⟩) h.lt).trans h.r1, (hb.cell (p := ⟨2, 2, none⟩) h.lt).trans h.r2, Nat.lt_of_lt_of_le h.lt hb.size⟩
theorem Roles.drawn {w : World} (h : Roles w) (k : Nat) : Roles (w.drewN k) := h.below (below_drawn w k)
theorem gRoles : Tryd.prog.globalNamed "sennit/windows.roles" = some 2 := by kernel_rfl
theorem roles_of {l : List (String × DataW Unit)} {w : World} (h : laidMetH Tryd.prog l w) (hp : (l.all fun x => x.2.handleName?.isNone) = true) (hm : ("sennit/windows.roles", DataW.agg [.lit (.int .u8 1), .lit (.int .u8 1), .lit (.int .u8 2)]) ∈ l) : Roles w := by
  rw [MakeChecks.laidMetH_plain _ _ _ hp] at h
  have key := laid_nums h (zs := [1, 1, 2]) (k := .u8) hm gRoles (show (Tryd.prog.globals[2]?).map (·.type) = some 144 by kernel_rfl) Tryd.underlying144 Tryd.underlying68 (by kernel_rfl)
  have h0 := key 0 1 rfl
  exact ⟨h0, key 1 1 rfl, key 2 2 rfl, World.block_lt_of_cell? w _ h0⟩

/-- The role at a place of the ring. -/
def roleF (k : Int) : Int := if k < 2 then 1 else if k = 2 then 2 else 3
structure Win where
  role : Int
  place : Int
  begin_ : Int
  end_ : Int
def Win.zero : Win := ⟨0, 0, 0, 0⟩
def winOf (k : Int) : Win := ⟨roleF k, k, 1 + k, 1 + k + 114⟩
def Win.v (r : Win) : Value := .agg #[.int .u8 r.role, .int .i64 r.place, .int .i64 r.begin_, .int .i64 r.end_]
/-- A node's window by a net, and what is wrong. -/
def winF (qs : List Int) (c : Cfg) (d owner node : Int) : Win := if roundF qs c = 0 ∨ placeF c.nodes d (fromL qs c.ps owner) node < 0 then .zero else winOf (placeF c.nodes d (fromL qs c.ps owner) node)
def winE (qs : List Int) (c : Cfg) (d owner node : Int) : Int := if roundF qs c = 0 then 2 else if placeF c.nodes d (fromL qs c.ps owner) node < 0 then 1 else 0
theorem place_small (n d f a : Int) : placeF n d f a ≤ 16 := by
  unfold placeF distF
  by_cases h : ringB n d = true ∧ nodeB n (if d = 1 then stepF n 0 f 1 else f) = true ∧ nodeB n a = true
  · have h4 := (ringB_true h.1).1
    have h16 := (ringB_true h.1).2.1
    rw [if_pos h]
    generalize (if d = 1 then stepF n 0 f 1 else f) = x
    have h1 := Int.emod_lt_of_pos (a - x) (show 0 < n by omega)
    have h2 := Int.emod_lt_of_pos (x - a) (show 0 < n by omega)
    split <;> omega
  · rw [if_neg h]; omega
theorem quiet_dr0 {P : Program} {f : FuncId} {args : Array Value} {w : World} {n : Nat} {v : Value}
    (h : Calls P f args (w.drewN n) fun e w' => e = .returned v ∧ ∃ k, w' = (w.drewN n).drewN k) : Calls P f args (w.drewN n) fun e w'' => e = .returned v ∧ ∃ m, w'' = w.drewN m :=
  h.mono fun _ _ ⟨he, k, hm⟩ => ⟨he, n + k, hm.trans (World.drewN_drewN ..)⟩

theorem winof_void (p : Option Addr) (c : Cfg) (qs : List Int) (d owner node : Int) (w : World) (h : NetP w p c qs) (hq : 0 < qs.length → c.ss.length ≤ 16 ∧ 0 ≤ c.long ∧ c.long ≤ 4096) (h0 : roundF qs c = 0) :
    Calls Tryd.prog 48 #[.pointer p, .int .u8 d, .int .i64 owner, .int .i64 node] w fun e w' => e = .returned (.tuple #[.agg #[.int .u8 0, .int .i64 0, .int .i64 0, .int .i64 0], .int .i64 2]) ∧ Below w.heap.size w w' := by
  have D1 : ∀ W, Below w.heap.size w W → Calls Tryd.prog 36 #[.pointer p] W fun e w' => e = .returned (.int .i64 0) ∧ ∃ k, w' = W.drewN k := fun W hb => by
    have := netround_any p c qs W (h.below hb) hq
    rw [h0] at this
    exact this
  have H1 := Lib.hid D1
  clear D1 h0 h hq
  go_enter Tryd.func48, Tryd.ntmps48
  go_wp2_with fail
  refine (H1.out _ ((Below.refl w.heap.size w).alloc (Nat.le_refl _) _)).mono ?_
  rintro e w1 ⟨rfl, k, rfl⟩
  go_wp2
  refine bodyPost_ret (v := .tuple #[.agg #[.int .u8 0, .int .i64 0, .int .i64 0, .int .i64 0], .int .i64 2]) (by simp [results, Tryd.results48, go_sem]) rfl ⟨rfl, ?_⟩
  exact ((((below_drewN ((Below.refl w.heap.size w).alloc (Nat.le_refl _) _) k).setCell (Nat.le_refl _) _).setCell (Nat.le_refl _) _).setCell (Nat.le_refl _) _).setCell (Nat.le_refl _) _
set_option maxHeartbeats 1000000 in
theorem winof_place (b : Nat) (pa sa ba ta qa : Option Addr) (c : Cfg) (qs : List Int) (d owner node : Int) (hd : 0 ≤ d) (w : World) (hs : Signs w) (hr : Roles w) (hv : NetV w b c qs pa sa ba ta qa) (hq : 0 < qs.length → c.ss.length ≤ 16 ∧ 0 ≤ c.long ∧ c.long ≤ 4096) (h0 : roundF qs c ≠ 0) :
    Calls Tryd.prog 48 #[.pointer (some ⟨b, 0, none⟩), .int .u8 d, .int .i64 owner, .int .i64 node] w fun e w' => e = .returned (.tuple #[(winF qs c d owner node).v, .int .i64 (winE qs c d owner node)]) ∧ Below w.heap.size w w' := by
  have hp : NetP w (some ⟨b, 0, none⟩) c qs := .inr ⟨b, pa, sa, ba, ta, qa, rfl, hv⟩
  have ew : winF qs c d owner node = if placeF c.nodes d (fromL qs c.ps owner) node < 0 then .zero else winOf (placeF c.nodes d (fromL qs c.ps owner) node) := by
    unfold winF
    by_cases e : placeF c.nodes d (fromL qs c.ps owner) node < 0
    · rw [if_pos (.inr e), if_pos e]
    · rw [if_neg (by rintro (h | h) <;> contradiction), if_neg e]
  have ee : winE qs c d owner node = if placeF c.nodes d (fromL qs c.ps owner) node < 0 then 1 else 0 := by unfold winE; rw [if_neg h0]
  rw [ew, ee]
  clear ew ee
  have hk16 := place_small c.nodes d (fromL qs c.ps owner) node
  have D1 : ∀ W, Below w.heap.size w W → Calls Tryd.prog 36 #[.pointer (some ⟨b, 0, none⟩)] W fun e w' => e = .returned (.int .i64 (roundF qs c)) ∧ ∃ k, w' = W.drewN k := fun W hb => netround_any _ c qs W (hp.below hb) hq
  have D2 : ∀ W, Below w.heap.size w W → Calls Tryd.prog 38 #[.pointer (some ⟨b, 0, none⟩), .int .i64 owner] W fun e w' => e = .returned (.int .i64 (fromL qs c.ps owner)) ∧ W = w' := fun W hb => netfirst_any _ c qs owner W (hp.below hb)
  have D3 : ∀ W, Below w.heap.size w W → Calls Tryd.prog 85 #[.int .i64 c.nodes, .int .u8 d, .int .i64 (fromL qs c.ps owner), .int .i64 node] W fun e w' => e = .returned (.int .i64 (placeF c.nodes d (fromL qs c.ps owner) node)) ∧ ∃ k, w' = W.drewN k := fun W hb => place_any c.nodes d _ node W hd (hs.below hb)
  have hz : (roundF qs c == 0) = false := by simpa using h0
  generalize placeF c.nodes d (fromL qs c.ps owner) node = k at D3 hk16 ⊢
  generalize fromL qs c.ps owner = f at D2 D3
  generalize roundF qs c = r at D1 hz
  have c0 := hv.c0
  generalize c.nodes = n at c0 D3
  have H1 := Lib.hid D1
  have H2 := Lib.hid D2
  have H3 := Lib.hid D3
  have HR := Lib.hid hr
  have hbl : b < w.heap.size := World.block_lt_of_cell? w _ c0
  clear D1 D2 D3 hv hp hs h0 hq hr
  go_enter Tryd.func48, Tryd.ntmps48
  go_wp2_with fail
  have hb1 := (Below.refl w.heap.size w).alloc (Nat.le_refl _) (.cells #[.int .u8 0, .int .i64 0, .int .i64 0, .int .i64 0] 70)
  refine (H1.out _ hb1).mono ?_
  rintro e w1 ⟨rfl, q1, rfl⟩
  obtain ⟨W2, hW2⟩ : ∃ W2, W2 = (w.alloc (.cells #[.int .u8 0, .int .i64 0, .int .i64 0, .int .i64 0] 70)).drewN q1 := ⟨_, rfl⟩
  rw [← hW2]
  have row2 : W2.heap[w.heap.size]? = some (.cells #[.int .u8 0, .int .i64 0, .int .i64 0, .int .i64 0] 70 (0, 0)) := by rw [hW2]; exact heap_new _ _ _ rfl
  have hb2 : Below w.heap.size w W2 := by rw [hW2]; exact below_drewN hb1 _
  have hsz : W2.heap.size = w.heap.size + 1 := by rw [hW2]; simp
  clear hW2 hb1
  have HR2 := Lib.hid (HR.out.below hb2)
  have c0' : W2.cell? ⟨b, 0, none⟩ = some (.int .i64 n) := (hb2.cell (p := ⟨b, 0, none⟩) hbl).trans c0
  have HB2 : Hid (∀ q, Below w.heap.size w (W2.drewN q)) := Lib.hid fun q => below_drewN hb2 _
  have k0 := heap_cell row2 0
  have k1 := heap_cell row2 1
  have k2 := heap_cell row2 2
  have k3 := heap_cell row2 3
  have f0 := heap_thawed row2 0
  have f1 := heap_thawed row2 1
  have f2 := heap_thawed row2 2
  have f3 := heap_thawed row2 3
  simp only [List.getElem?_toArray, List.getElem?_cons_zero, List.getElem?_cons_succ] at k0 k1 k2 k3
  have HBB := Lib.hid hb2
  have HROW := Lib.hid row2
  have HSZ := Lib.hid hsz
  clear hb2 row2 c0 hsz
  go_wp2
  go_quiet (first | (go_at_call 38; exact quiet_eq (H2.out _ (HB2.out _))) | (go_at_call 85; exact quiet_dr0 (H3.out _ (HB2.out _))))
  rename_i nq
  obtain ⟨W4, hW4⟩ : ∃ W4, W4 = W2.drewN nq := ⟨_, rfl⟩
  rw [← hW4]
  have HB4 : Hid (Below w.heap.size w W4) := Lib.hid (by rw [hW4]; exact HB2.out _)
  have HSZ4 : Hid (W4.heap.size = w.heap.size + 1) := Lib.hid (by rw [hW4]; exact HSZ.out)
  have k0 : W4.cell? ⟨w.heap.size, 0, none⟩ = some (.int .u8 0) := by rw [hW4]; exact k0
  have k1 : W4.cell? ⟨w.heap.size, 1, none⟩ = some (.int .i64 0) := by rw [hW4]; exact k1
  have k2 : W4.cell? ⟨w.heap.size, 2, none⟩ = some (.int .i64 0) := by rw [hW4]; exact k2
  have k3 : W4.cell? ⟨w.heap.size, 3, none⟩ = some (.int .i64 0) := by rw [hW4]; exact k3
  have f0 : W4.frozen? ⟨w.heap.size, 0, none⟩ = false := by rw [hW4]; exact f0
  have f1 : W4.frozen? ⟨w.heap.size, 1, none⟩ = false := by rw [hW4]; exact f1
  have f2 : W4.frozen? ⟨w.heap.size, 2, none⟩ = false := by rw [hW4]; exact f2
  have f3 : W4.frozen? ⟨w.heap.size, 3, none⟩ = false := by rw [hW4]; exact f3
  have HR4 := Lib.hid (HR.out.below HB4.out)
  have hlt4 : w.heap.size < W4.heap.size := by have := HSZ4.out; omega
  have hlr4 : 2 < W4.heap.size := HR4.out.lt
  clear hW4 HR2
  by_cases hk0 : k < 0
  · go_wp2
    refine bodyPost_ret (v := .tuple #[.agg #[.int .u8 0, .int .i64 0, .int .i64 0, .int .i64 0], .int .i64 1]) (by simp [results, Tryd.results48, go_sem, k0, k1, k2, k3]) rfl ⟨by first | rfl | (rw [if_pos hk0]; rfl), ?_⟩
    exact ((((HB4.out).setCell (Nat.le_refl _) _).setCell (Nat.le_refl _) _).setCell (Nat.le_refl _) _).setCell (Nat.le_refl _) _
  · have w1 : wrap64 (1 + k) = 1 + k := by unfold wrap64; omega
    have w2 : wrap64 (1 + k + 114) = 1 + k + 114 := by unfold wrap64; omega
    by_cases hk3 : k < 3
    · have r0 := HR4.out.r0
      have r1 := HR4.out.r1
      have r2 := HR4.out.r2
      have hc : k = 0 ∨ k = 1 ∨ k = 2 := by omega
      rcases hc with rfl | rfl | rfl
      · have : roleF 0 = 1 := rfl
        go_wp2
        refine bodyPost_ret (v := .tuple #[.agg #[.int .u8 1, .int .i64 0, .int .i64 1, .int .i64 115], .int .i64 0]) (by simp [results, Tryd.results48, go_sem, k0, k1, k2, k3, hlt4]) rfl ⟨by first | rfl | (rw [if_neg hk0]; rfl), ?_⟩
        first | exact (((((HB4.out.setCell (Nat.le_refl _) _).setCell (Nat.le_refl _) _).setCell (Nat.le_refl _) _).setCell (Nat.le_refl _) _).alloc (by simp; omega) _) | exact (((((HB4.out.alloc (by omega) _).setCell (by simp) _).setCell (by simp) _).setCell (by simp) _).setCell (by simp) _)
      · go_wp2
        refine bodyPost_ret (v := .tuple #[.agg #[.int .u8 1, .int .i64 1, .int .i64 2, .int .i64 116], .int .i64 0]) (by simp [results, Tryd.results48, go_sem, k0, k1, k2, k3, hlt4]) rfl ⟨by first | rfl | (rw [if_neg hk0]; rfl), ?_⟩
        first | exact (((((HB4.out.setCell (Nat.le_refl _) _).setCell (Nat.le_refl _) _).setCell (Nat.le_refl _) _).setCell (Nat.le_refl _) _).alloc (by simp; omega) _) | exact (((((HB4.out.alloc (by omega) _).setCell (by simp) _).setCell (by simp) _).setCell (by simp) _).setCell (by simp) _)
      · go_wp2
        refine bodyPost_ret (v := .tuple #[.agg #[.int .u8 2, .int .i64 2, .int .i64 3, .int .i64 117], .int .i64 0]) (by simp [results, Tryd.results48, go_sem, k0, k1, k2, k3, hlt4]) rfl ⟨by first | rfl | (rw [if_neg hk0]; rfl), ?_⟩
        first | exact (((((HB4.out.setCell (Nat.le_refl _) _).setCell (Nat.le_refl _) _).setCell (Nat.le_refl _) _).setCell (Nat.le_refl _) _).alloc (by simp; omega) _) | exact (((((HB4.out.alloc (by omega) _).setCell (by simp) _).setCell (by simp) _).setCell (by simp) _).setCell (by simp) _)
    · have hrl : roleF k = 3 := by unfold roleF; rw [if_neg (by omega), if_neg (by omega)]
      have HRL := Lib.hid hrl
      clear hrl
      go_wp2
      refine bodyPost_ret (v := .tuple #[.agg #[.int .u8 3, .int .i64 k, .int .i64 (1 + k), .int .i64 (1 + k + 114)], .int .i64 0]) (by simp [results, Tryd.results48, go_sem, k0, k1, k2, k3, hlt4]) rfl ⟨by first | (simp only [winOf, Win.v, HRL.out]; done) | (rw [if_neg hk0, if_neg hk0]; simp only [winOf, Win.v, HRL.out]), ?_⟩
      first | exact (((((HB4.out.setCell (Nat.le_refl _) _).setCell (Nat.le_refl _) _).setCell (Nat.le_refl _) _).setCell (Nat.le_refl _) _).alloc (by simp; omega) _) | exact (((((HB4.out.alloc (by omega) _).setCell (by simp) _).setCell (by simp) _).setCell (by simp) _).setCell (by simp) _)
theorem winof_any (p : Option Addr) (c : Cfg) (qs : List Int) (d owner node : Int) (hd : 0 ≤ d) (w : World) (hs : Signs w) (hr : Roles w) (h : NetP w p c qs) (hq : 0 < qs.length → c.ss.length ≤ 16 ∧ 0 ≤ c.long ∧ c.long ≤ 4096) :
    Calls Tryd.prog 48 #[.pointer p, .int .u8 d, .int .i64 owner, .int .i64 node] w fun e w' => e = .returned (.tuple #[(winF qs c d owner node).v, .int .i64 (winE qs c d owner node)]) ∧ Below w.heap.size w w' := by
  by_cases h0 : roundF qs c = 0
  · have ew : winF qs c d owner node = .zero := if_pos (.inl h0)
    have ee : winE qs c d owner node = 2 := if_pos h0
    rw [ew, ee]
    exact winof_void p c qs d owner node w h hq h0
  · rcases h with ⟨_, rfl⟩ | ⟨b, pa, sa, ba, ta, qa, rfl, hv⟩
    · exact absurd rfl h0
    · exact winof_place b pa sa ba ta qa c qs d owner node hd w hs hr hv hq h0

/-- An owner's guards. -/
def guardF (qs : List Int) (c : Cfg) (owner d : Int) : Int := if fromL qs c.ps owner = -1 then -1 else if d = 0 then stepF c.nodes 0 (fromL qs c.ps owner) 2 else stepF c.nodes 1 (fromL qs c.ps owner) 1
set_option maxHeartbeats 1000000 in
theorem guards_any (p : Option Addr) (c : Cfg) (qs : List Int) (owner : Int) (w : World) (hs : Signs w) (h : NetP w p c qs) :
    Calls Tryd.prog 53 #[.pointer p, .int .i64 owner] w fun e w' => e = .returned (.tuple #[.int .i64 (guardF qs c owner 0), .int .i64 (guardF qs c owner 1)]) ∧ ∃ k, w' = w.drewN k := by
  have h1 := netfirst_any p c qs owner w h
  have e0 : guardF qs c owner 0 = if fromL qs c.ps owner = -1 then -1 else stepF c.nodes 0 (fromL qs c.ps owner) 2 := rfl
  have e1 : guardF qs c owner 1 = if fromL qs c.ps owner = -1 then -1 else stepF c.nodes 1 (fromL qs c.ps owner) 1 := rfl
  rw [e0, e1]
  clear e0 e1
  by_cases ha : fromL qs c.ps owner = -1
  · rw [if_pos ha, if_pos ha]
    rw [ha] at h1
    clear ha
    go_enter Tryd.func53, Tryd.ntmps53
    go_wp2_with (first | (go_at_call 38; refine (h1).mono ?_; rintro e w' ⟨rfl, rfl⟩) | fail)
    go_ret2
    exact ⟨rfl, 0, rfl⟩
  · rw [if_neg ha, if_neg ha]
    rcases h with ⟨_, rfl⟩ | ⟨b, pa, sa, ba, ta, qa, rfl, hv⟩
    · exact absurd rfl ha
    · have c0 := hv.c0
      generalize fromL qs c.ps owner = a at h1 ha ⊢
      generalize c.nodes = n at c0 ⊢
      have hz : (a == -1) = false := by simpa using ha
      have H1 := Lib.hid hs
      clear ha hv hs
      go_enter Tryd.func53, Tryd.ntmps53
      go_wp2_with (first | (go_at_call 38; refine (h1).mono ?_; rintro e w' ⟨rfl, rfl⟩) | fail)
      go_quiet ((go_at_call 79; exact quiet_dr0 (step_any _ _ _ _ _ (by omega) (by omega) (by omega) (H1.out.drawn _))))
      try go_wp2
      go_ret2
      exact ⟨rfl, _, rfl⟩

/-- When all windows are over. -/
def overF (qs : List Int) (c : Cfg) : Int := if roundF qs c = 0 then 0 else c.nodes + 114
theorem over_any (p : Option Addr) (c : Cfg) (qs : List Int) (w : World) (h : NetP w p c qs) (hq : 0 < qs.length → c.ss.length ≤ 16 ∧ 0 ≤ c.long ∧ c.long ≤ 4096) (hn : 0 ≤ c.nodes ∧ c.nodes ≤ 16) :
    Calls Tryd.prog 47 #[.pointer p] w fun e w' => e = .returned (.int .i64 (overF qs c)) ∧ ∃ k, w' = w.drewN k := by
  have h1 := netround_any p c qs w h hq
  unfold overF
  by_cases h0 : roundF qs c = 0
  · rw [if_pos h0]
    rw [h0] at h1
    clear h0
    go_enter Tryd.func47, Tryd.ntmps47
    go_wp2_with (first | (go_at_call 36; refine (h1).mono ?_; rintro e w' ⟨rfl, k, rfl⟩) | fail)
    go_ret
    exact ⟨rfl, _, rfl⟩
  · rw [if_neg h0]
    rcases h with ⟨_, rfl⟩ | ⟨b, pa, sa, ba, ta, qa, rfl, hv⟩
    · exact absurd rfl h0
    · have c0 := hv.c0
      have hz : (roundF qs c == 0) = false := by simpa using h0
      generalize roundF qs c = r at h1 hz
      generalize c.nodes = n at c0 hn ⊢
      have n0 := hn.1
      have n1 := hn.2
      clear hn h0
      go_enter Tryd.func47, Tryd.ntmps47
      go_wp2_with (first | (go_at_call 36; refine (h1).mono ?_; rintro e w' ⟨rfl, k, rfl⟩) | fail)
      go_ret
      exact ⟨ret_int (by omega), _, rfl⟩
end Go.Proofs.YtibncdkekceokaaDoor
