/- Layer 10's laws: what they all call: the net of a config (sennitlaw06.Net), a window's At and Pass, the chapter's example (lives). -/
import Derived.Test.YtibncdkekceokaaDoorPWindowsOfx6
import Derived.Test.YtibncdkekceokaaDoorWinP
import Derived.Test.YtibncdkekceokaaDoorRefNew
import Derived.Test.YtibncdkekceokaaDoorSame
import Derived.Test.YtibncdkekceokaaDoorLives04
namespace Go.Proofs.YtibncdkekceokaaDoor
open Go.RowKit

/-- A cell of a row that is known whole, at a number within it. -/
theorem row_cell {w : World} {b : Nat} {c : Array Value} {e : TypeId} {fr : Nat × Nat} (h : w.heap[b]? = some (.cells c e fr)) (i : Nat) : w.cell? ⟨b, i, none⟩ = c[i]? := heap_cell h i
theorem row_later {w w' : World} {B b : Nat} {o : Obj} (h : w.heap[b]? = some o) (hb : Below B w w') (hB : w.heap.size ≤ B) : w'.heap[b]? = some o := (hb.block _ (Nat.lt_of_lt_of_le (Array.getElem?_eq_some_iff.1 h).1 hB)).trans h

def openB (b e place : Int) : Bool := decide (b ≤ place ∧ place < e)
def tickF (b e place : Int) : Int := if b ≤ place ∧ place < e then place - b else 0
theorem at_f (r p b e place : Int) (h0 : 0 ≤ b) (h1 : e ≤ 100000) : PWindowsOf.windows_Window_At.f r p b e place = some (tickF b e place, openB b e place) := by
  unfold PWindowsOf.windows_Window_At.f tickF openB
  by_cases hz : (r == 0 && (p == 0 && (b == 0 && (e == 0)))) = true
  · rw [if_pos hz]
    simp only [Bool.and_eq_true, beq_iff_eq] at hz
    rw [if_neg (by omega), decide_eq_false (by omega)]
  · rw [if_neg hz]
    by_cases h2 : place < b
    · rw [if_pos h2, if_neg (by omega), decide_eq_false (by omega)]
    · rw [if_neg h2]
      by_cases h3 : place ≥ e
      · rw [if_pos h3, if_neg (by omega), decide_eq_false (by omega)]
      · rw [if_neg h3, if_pos (by omega), decide_eq_true (by omega)]
        have : wrap64 (place - b) = place - b := by unfold wrap64; omega
        rw [this]
theorem winat_any (r p b e place : Int) (h0 : 0 ≤ b) (h1 : e ≤ 100000) (w : World) :
    Calls Tryd.prog 51 #[.agg #[.int .u8 r, .int .i64 p, .int .i64 b, .int .i64 e], .int .i64 place] w fun en w' => en = .returned (.tuple #[.int .i64 (tickF b e place), .bool (openB b e place)]) ∧ Below w.heap.size w w' :=
  PWindowsOf.windows_Window_At.calls r p b e place _ _ w (at_f r p b e place h0 h1)
def passF (b e place x : Int) : Int := if openB b e place = true then x else 0
theorem winpass_any (r p b e place x : Int) (h0 : 0 ≤ b) (h1 : e ≤ 100000) (w : World) :
    Calls Tryd.prog 55 #[.agg #[.int .u8 r, .int .i64 p, .int .i64 b, .int .i64 e], .int .i64 place, .int .u8 x] w fun en w' => en = .returned (.int .u8 (passF b e place x)) ∧ Below w.heap.size w w' :=
  PWindowsOf.windows_Window_Pass.calls r p b e place x _ w (by
    unfold PWindowsOf.windows_Window_Pass.f passF
    rw [at_f r p b e place h0 h1]
    simp only [Option.bind_some]
    split <;> rfl)

attribute [local go_sem ↓ high] cfgLoad_eq
attribute [local go_sem high] run_cfgLoad
theorem run_cfgLoad_new (w : World) (cs : Array Value) (hs : cs.size = 9) : (cfgLoad (.pointer (some ⟨w.heap.size, 0, none⟩))).run Tryd.prog (w.alloc (.cells cs 25)) = .ok (.agg cs) (w.alloc (.cells cs 25)) := run_cfgLoad _ _ _ (heap_new _ _ _ rfl) hs
attribute [local go_sem high] run_cfgLoad_new
/-- What sennitlaw06.Net answers: a net of a config that may be, and is not great; else none. -/
def Net06 (w w' : World) (c : Cfg) (e : Ending) : Prop :=
  (e = .returned (.pointer none) ∨ ∃ b, e = .returned (.pointer (some ⟨b, 0, none⟩)) ∧ c.err = 0 ∧ NetP w' (some ⟨b, 0, none⟩) c c.pairs) ∧ Below w.heap.size w w'
set_option maxRecDepth 100000 in
set_option maxHeartbeats 2000000 in
theorem net06_any (nodes long miss good fresh : Int) (pa sa ba ta : Option Addr) (pn pc sn sc bn bc tn tc : Nat) (ps ss bs : List Int) (ts : List (Int × Int × Int)) (w : World) (hs : Signs w) (hC : CfgIn w nodes long miss good fresh pa sa ba ta pn pc sn sc bn bc tn tc ps ss bs ts) :
    Calls Tryd.prog 45 #[.agg #[.int .i64 nodes, .slice pa pn pc, .slice sa sn sc, .int .i64 long, .slice ba bn bc, .slice ta tn tc, .int .i64 miss, .int .i64 good, .int .i64 fresh]] w fun e w' => Net06 w w' (Cfg.mk nodes long miss good fresh ps ss bs ts) e := by
  have hb0 := (Below.refl w.heap.size w).alloc (Nat.le_refl _) (.cells #[.int .i64 nodes, .slice pa pn pc, .slice sa sn sc, .int .i64 long, .slice ba bn bc, .slice ta tn tc, .int .i64 miss, .int .i64 good, .int .i64 fresh] 25)
  have r0 : (w.alloc (.cells #[.int .i64 nodes, .slice pa pn pc, .slice sa sn sc, .int .i64 long, .slice ba bn bc, .slice ta tn tc, .int .i64 miss, .int .i64 good, .int .i64 fresh] 25)).heap[w.heap.size]? = some (.cells #[.int .i64 nodes, .slice pa pn pc, .slice sa sn sc, .int .i64 long, .slice ba bn bc, .slice ta tn tc, .int .i64 miss, .int .i64 good, .int .i64 fresh] 25 (0, 0)) := heap_new _ _ _ rfl
  have hG := great_any nodes long miss good fresh pa sa ba ta pn pc sn sc bn bc tn tc ps ss bs ts _ (hC.below hb0)
  obtain ⟨c, hc⟩ : ∃ c, c = Cfg.mk nodes long miss good fresh ps ss bs ts := ⟨_, rfl⟩
  have HCC := Lib.hid hc
  rw [← hc]
  have HS := Lib.hid hs
  have HC := Lib.hid hC
  have HB0 := Lib.hid hb0
  have HG := Lib.hid hG
  clear hs hC hb0 hc hG
  go_enter Tryd.func45, Tryd.ntmps45
  go_wp2_with fail
  refine HG.out.mono ?_
  rintro e w1 ⟨rfl, hb1⟩
  have HB1 := Lib.hid (HB0.out.trans (hb1.mono (by simp)))
  have r1 := row_later r0 hb1 (Nat.le_refl _)
  clear hb1 r0
  by_cases big : 60 < pn ∨ 60 < sn ∨ 60 < bn ∨ 60 < tn
  · rw [decide_eq_true big]
    clear big
    go_wp2
    go_ret
    exact ⟨.inl rfl, HB1.out⟩
  rw [decide_eq_false big]
  clear big
  have hR := refnew_any nodes long miss good fresh pa sa ba ta pn pc sn sc bn bc tn tc ps ss bs ts w1 (HC.out.below HB1.out)
  rw [← HCC.out] at hR
  obtain ⟨x, hx⟩ : ∃ x, x = c.err := ⟨_, rfl⟩
  rw [← hx] at hR
  have HX := Lib.hid hx
  have HR := Lib.hid hR
  clear hR hx
  go_wp2_with fail
  refine HR.out.mono ?_
  rintro e w2 ⟨rfl, hb2⟩
  have HB2 := Lib.hid (HB1.out.trans (hb2.mono HB1.out.size))
  have r2 := row_later r1 hb2 (Nat.le_refl _)
  clear hb2 r1
  by_cases hx0 : x = 0
  · have hz : (x != 0) = false := by simpa using hx0
    have hN := new_any nodes long miss good fresh pa sa ba ta pn pc sn sc bn bc tn tc ps ss bs ts w2 (HS.out.below HB2.out) (HC.out.below HB2.out)
    rw [← HCC.out] at hN
    have HN := Lib.hid hN
    have HX0 := Lib.hid hx0
    clear hN hx0
    go_wp2_with fail
    refine HN.out.mono ?_
    rintro e w3 hP
    rcases hP with ⟨h0, _⟩ | ⟨h0, b, rfl, hA, hb3⟩
    · exact absurd (HX.out.symm.trans HX0.out) h0
    · have HE := Lib.hid h0
      have HA := Lib.hid (hA.ptr (Cfg.ok h0))
      have HB3 := Lib.hid (HB2.out.trans (hb3.mono HB2.out.size))
      clear h0 hA hb3 HR HG HN
      go_wp2
      go_ret
      exact ⟨.inr ⟨b, rfl, HE.out, HA.out⟩, HB3.out⟩
  · have hz : (x != 0) = true := by simpa using hx0
    clear hx0
    go_wp2
    go_ret
    exact ⟨.inl rfl, HB2.out⟩

theorem slice_ok (b n : Nat) : SliceOK (some ⟨b, 0, none⟩) n n := ⟨Nat.le_refl _, (fun h => by cases h), fun _ h => by cases h; exact ⟨b, 0, rfl⟩⟩
theorem slice_nil : SliceOK none 0 0 := ⟨Nat.le_refl _, fun _ => ⟨rfl, rfl⟩, fun _ h => by cases h⟩
/-- The chapters' example, its lists laid one behind the other. -/
theorem plain3 (w : World) : CfgIn (((w.alloc (.cells #[.int .i64 0, .int .i64 2] 3)).alloc (.cells #[.int .i64 0, .int .i64 1] 3)).alloc (.cells #[.int .i64 0, .int .i64 0, .int .i64 0, .int .i64 0] 3)) 4 120 3 3 3 (some ⟨w.heap.size, 0, none⟩) (some ⟨w.heap.size + 1, 0, none⟩) (some ⟨w.heap.size + 1 + 1, 0, none⟩) none 2 2 2 2 4 4 0 0 [0, 2] [0, 1] [0, 0, 0, 0] [] := by
  have h1 : Reads (w.alloc (.cells #[.int .i64 0, .int .i64 2] 3)) eI (some ⟨w.heap.size, 0, none⟩) 2 [0, 2] := reads_new _ _ _ _ rfl [0, 2] rfl rfl (by omega)
  generalize hw1 : w.alloc (.cells #[.int .i64 0, .int .i64 2] 3) = w1 at h1 ⊢
  have s1 : w1.heap.size = w.heap.size + 1 := by rw [← hw1]; simp
  have h2 : Reads (w1.alloc (.cells #[.int .i64 0, .int .i64 1] 3)) eI (some ⟨w.heap.size + 1, 0, none⟩) 2 [0, 1] := reads_new _ _ _ _ s1.symm [0, 1] rfl rfl (by omega)
  have b2 : Below w1.heap.size w1 (w1.alloc (.cells #[.int .i64 0, .int .i64 1] 3)) := (Below.refl _ _).alloc (Nat.le_refl _) _
  generalize hw2 : w1.alloc (.cells #[.int .i64 0, .int .i64 1] 3) = w2 at h2 b2 ⊢
  have s2 : w2.heap.size = w.heap.size + 1 + 1 := by rw [← hw2]; simp [s1]
  have h3 : Reads (w2.alloc (.cells #[.int .i64 0, .int .i64 0, .int .i64 0, .int .i64 0] 3)) eI (some ⟨w.heap.size + 1 + 1, 0, none⟩) 4 [0, 0, 0, 0] := reads_new _ _ _ _ s2.symm [0, 0, 0, 0] rfl rfl (by omega)
  have b3 : Below w2.heap.size w2 (w2.alloc (.cells #[.int .i64 0, .int .i64 0, .int .i64 0, .int .i64 0] 3)) := (Below.refl _ _).alloc (Nat.le_refl _) _
  exact ⟨slice_ok _ _, slice_ok _ _, slice_ok _ _, slice_nil, h1.below (b2.trans (b3.mono (by omega))), h2.below b3, h3, ⟨rfl, by omega, fun i hi => by omega⟩⟩
theorem plain3_below (w : World) : Below w.heap.size w (((w.alloc (.cells #[.int .i64 0, .int .i64 2] 3)).alloc (.cells #[.int .i64 0, .int .i64 1] 3)).alloc (.cells #[.int .i64 0, .int .i64 0, .int .i64 0, .int .i64 0] 3)) :=
  (((Below.refl w.heap.size w).alloc (Nat.le_refl _) _).alloc (by simp) _).alloc (by simp; omega) _
/-- The net of the chapters' example. -/
theorem plainnet_any (w : World) (hs : Signs w) :
    Calls Tryd.prog 22 #[.agg #[.int .i64 4, .slice (some ⟨w.heap.size, 0, none⟩) 2 2, .slice (some ⟨w.heap.size + 1, 0, none⟩) 2 2, .int .i64 120, .slice (some ⟨w.heap.size + 1 + 1, 0, none⟩) 4 4, .slice none 0 0, .int .i64 3, .int .i64 3, .int .i64 3]] (((w.alloc (.cells #[.int .i64 0, .int .i64 2] 3)).alloc (.cells #[.int .i64 0, .int .i64 1] 3)).alloc (.cells #[.int .i64 0, .int .i64 0, .int .i64 0, .int .i64 0] 3)) fun e w' =>
      ∃ b, e = .returned (.tuple #[.pointer (some ⟨b, 0, none⟩), .int .i64 0]) ∧ Hid (NetP w' (some ⟨b, 0, none⟩) plainC plainC.pairs ∧ Below w.heap.size w w') := by
  refine (new_any _ _ _ _ _ _ _ _ _ _ _ _ _ _ _ _ _ _ _ _ _ _ (hs.below (plain3_below w)) (plain3 w)).mono ?_
  rintro e w' hP
  rcases hP with ⟨h0, _⟩ | ⟨_, b, rfl, hA, hb⟩
  · exact absurd plainC_err h0
  · exact ⟨b, rfl, Lib.hid ⟨hA.ptr (Cfg.ok plainC_err), (plain3_below w).trans (hb.mono (plain3_below w).size)⟩⟩
theorem plain_rq : 0 < plainC.pairs.length → plainC.ss.length ≤ 16 ∧ 0 ≤ plainC.long ∧ plainC.long ≤ 4096 := fun _ => by decide

def winLoad (v : Value) : Sem Value := Instr.loadAt 70 v
theorem winLoad_eq (v : Value) : Instr.loadAt 70 v = winLoad v := rfl
theorem run_winLoad (W : World) (g : Nat) (cs : Array Value) (h : W.heap[g]? = some (.cells cs 70 (0, 0))) (hs : cs.size = 4) : (winLoad (.pointer (some ⟨g, 0, none⟩))).run Tryd.prog W = .ok (.agg cs) W :=
  load_block' W g _ _ cs (0, 0) _ Tryd.underlying70 rfl (by rw [hs]; kernel_rfl) h
theorem run_winLoad_new (w : World) (cs : Array Value) (hs : cs.size = 4) : (winLoad (.pointer (some ⟨w.heap.size, 0, none⟩))).run Tryd.prog (w.alloc (.cells cs 70)) = .ok (.agg cs) (w.alloc (.cells cs 70)) := run_winLoad _ _ _ (heap_new _ _ _ rfl) hs
attribute [local go_sem ↓ high] winLoad_eq
attribute [local go_sem high] run_winLoad run_winLoad_new
set_option maxRecDepth 100000 in
set_option maxHeartbeats 4000000 in
theorem lives10_any (w : World) (hs : Signs w) (hr : Roles w) :
    Calls Tryd.prog 46 #[] w fun e w' => e = .returned (.bool true) ∧ Below w.heap.size w w' := by
  have HS := Lib.hid hs
  have HR := Lib.hid hr
  clear hs hr
  have w1 : winF plainC.pairs plainC 0 0 3 = ⟨3, 3, 4, 118⟩ := by kernel_rfl
  have w2 : winF plainC.pairs plainC 1 0 3 = ⟨2, 2, 3, 117⟩ := by kernel_rfl
  have e1 : winE plainC.pairs plainC 0 0 3 = 0 := by kernel_rfl
  have e2 : winE plainC.pairs plainC 1 0 3 = 0 := by kernel_rfl
  have g0 : guardF plainC.pairs plainC 0 0 = 2 := by kernel_rfl
  have g1 : guardF plainC.pairs plainC 0 1 = 3 := by kernel_rfl
  have ov : overF plainC.pairs plainC = 118 := by kernel_rfl
  have D1 : ∀ W p, Below w.heap.size w W → NetP W p plainC plainC.pairs → Calls Tryd.prog 48 #[.pointer p, .int .u8 0, .int .i64 0, .int .i64 3] W fun e w' => e = .returned (.tuple #[.agg #[.int .u8 3, .int .i64 3, .int .i64 4, .int .i64 118], .int .i64 0]) ∧ Below W.heap.size W w' := fun W p hb hp => by
    have h := winof_any p plainC _ 0 0 3 (by omega) W (HS.out.below hb) (HR.out.below hb) hp plain_rq
    rw [w1, e1] at h
    exact h
  have D2 : ∀ W p, Below w.heap.size w W → NetP W p plainC plainC.pairs → Calls Tryd.prog 48 #[.pointer p, .int .u8 1, .int .i64 0, .int .i64 3] W fun e w' => e = .returned (.tuple #[.agg #[.int .u8 2, .int .i64 2, .int .i64 3, .int .i64 117], .int .i64 0]) ∧ Below W.heap.size W w' := fun W p hb hp => by
    have h := winof_any p plainC _ 1 0 3 (by omega) W (HS.out.below hb) (HR.out.below hb) hp plain_rq
    rw [w2, e2] at h
    exact h
  have D3 : ∀ W p, Below w.heap.size w W → NetP W p plainC plainC.pairs → Calls Tryd.prog 53 #[.pointer p, .int .i64 0] W fun e w' => e = .returned (.tuple #[.int .i64 2, .int .i64 3]) ∧ Below W.heap.size W w' := fun W p hb hp => by
    have h := guards_any p plainC _ 0 W (HS.out.below hb) hp
    rw [g0, g1] at h
    exact h.mono fun e w' ⟨h1, k, h2⟩ => ⟨h1, by rw [h2]; exact below_drawn W k⟩
  have D4 : ∀ W p, Below w.heap.size w W → NetP W p plainC plainC.pairs → Calls Tryd.prog 47 #[.pointer p] W fun e w' => e = .returned (.int .i64 118) ∧ Below W.heap.size W w' := fun W p hb hp => by
    have h := over_any p plainC _ W hp plain_rq (by decide)
    rw [ov] at h
    exact h.mono fun e w' ⟨h1, k, h2⟩ => ⟨h1, by rw [h2]; exact below_drawn W k⟩
  have E1 := Lib.hid D1
  have E2 := Lib.hid D2
  have E3 := Lib.hid D3
  have E4 := Lib.hid D4
  have EN := Lib.hid (plainnet_any w HS.out)
  clear w1 w2 e1 e2 g0 g1 ov D1 D2 D3 D4
  go_enter Tryd.func46, Tryd.ntmps46
  go_wp2_with fail
  refine EN.out.mono ?_
  rintro e w1 ⟨b, rfl, HP1⟩
  go_wp2_with fail
  refine (E1.out _ _ HP1.out.2 HP1.out.1).mono ?_
  rintro e w2 ⟨rfl, hb2⟩
  have HP2 : Hid (NetP w2 (some ⟨b, 0, none⟩) plainC plainC.pairs ∧ Below w.heap.size w w2) := Lib.hid ⟨HP1.out.1.below hb2, HP1.out.2.trans (hb2.mono HP1.out.2.size)⟩
  clear hb2
  go_wp2_with fail
  obtain ⟨W2, hW2⟩ : ∃ W2, W2 = w2.alloc (.cells #[.int .u8 3, .int .i64 3, .int .i64 4, .int .i64 118] 70) := ⟨_, rfl⟩
  rw [← hW2]
  have q2 : W2.heap[w2.heap.size]? = some (.cells #[.int .u8 3, .int .i64 3, .int .i64 4, .int .i64 118] 70 (0, 0)) := by rw [hW2]; exact heap_new _ _ _ rfl
  have hbW2 : Below w2.heap.size w2 W2 := by rw [hW2]; exact (Below.refl _ _).alloc (Nat.le_refl _) _
  have HPW2 : Hid (NetP W2 (some ⟨b, 0, none⟩) plainC plainC.pairs ∧ Below w.heap.size w W2) := Lib.hid ⟨HP2.out.1.below hbW2, HP2.out.2.trans (hbW2.mono HP2.out.2.size)⟩
  clear hW2 hbW2
  refine (E2.out _ _ HPW2.out.2 HPW2.out.1).mono ?_
  rintro e w3 ⟨rfl, hb3⟩
  have HP3 : Hid (NetP w3 (some ⟨b, 0, none⟩) plainC plainC.pairs ∧ Below w.heap.size w w3) := Lib.hid ⟨HPW2.out.1.below hb3, HPW2.out.2.trans (hb3.mono HPW2.out.2.size)⟩
  have q3 := row_later q2 hb3 (Nat.le_refl _)
  clear hb3 q2
  go_wp2_with fail
  obtain ⟨W3, hW3⟩ : ∃ W3, W3 = w3.alloc (.cells #[.int .u8 2, .int .i64 2, .int .i64 3, .int .i64 117] 70) := ⟨_, rfl⟩
  rw [← hW3]
  have p3 : W3.heap[w3.heap.size]? = some (.cells #[.int .u8 2, .int .i64 2, .int .i64 3, .int .i64 117] 70 (0, 0)) := by rw [hW3]; exact heap_new _ _ _ rfl
  have hbW3 : Below w3.heap.size w3 W3 := by rw [hW3]; exact (Below.refl _ _).alloc (Nat.le_refl _) _
  have q3' := row_later q3 hbW3 (Nat.le_refl _)
  have HPW3 : Hid (NetP W3 (some ⟨b, 0, none⟩) plainC plainC.pairs ∧ Below w.heap.size w W3) := Lib.hid ⟨HP3.out.1.below hbW3, HP3.out.2.trans (hbW3.mono HP3.out.2.size)⟩
  clear hW3 hbW3 q3
  refine (E3.out _ _ HPW3.out.2 HPW3.out.1).mono ?_
  rintro e w4 ⟨rfl, hb4⟩
  have HP4 : Hid (NetP w4 (some ⟨b, 0, none⟩) plainC plainC.pairs ∧ Below w.heap.size w w4) := Lib.hid ⟨HPW3.out.1.below hb4, HPW3.out.2.trans (hb4.mono HPW3.out.2.size)⟩
  have q4 := row_later q3' hb4 (Nat.le_refl _)
  have p4 := row_later p3 hb4 (Nat.le_refl _)
  clear hb4 q3' p3
  go_wp2_with fail
  refine (E4.out _ _ HP4.out.2 HP4.out.1).mono ?_
  rintro e w5 ⟨rfl, hb5⟩
  have HP5 := Lib.hid (HP4.out.2.trans (hb5.mono HP4.out.2.size))
  clear hb5 q4 p4
  go_wp2
  go_ret
  exact ⟨rfl, HP5.out⟩
end Go.Proofs.YtibncdkekceokaaDoor
