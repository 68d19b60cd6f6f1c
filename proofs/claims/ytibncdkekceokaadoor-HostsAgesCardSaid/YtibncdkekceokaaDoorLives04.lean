/- sennitlaw04.small, wrong, lives. -/
import Derived.Test.YtibncdkekceokaaDoorNet2
namespace Go.Proofs.YtibncdkekceokaaDoor
open Go.RowKit

set_option maxHeartbeats 1000000 in
theorem small_any (w : World) :
    Calls Tryd.prog 35 #[] w fun e w' => ∃ pa sa ba, e = .returned (.agg #[.int .i64 4, .slice pa 2 2, .slice sa 3 3, .int .i64 120, .slice ba 4 4, .slice none 0 0, .int .i64 3, .int .i64 3, .int .i64 3]) ∧
      CfgIn w' 4 120 3 3 3 pa sa ba none 2 2 3 3 4 4 0 0 [0, 2] [0, 1, 1] [0, 0, 0, 0] [] ∧ Below w.heap.size w w' := by
  go_enter Tryd.func35, Tryd.ntmps35
  go_wp2
  generalize hw1 : w.alloc (.cells #[.int .i64 4, .slice (some ⟨w.heap.size + 1, 0, none⟩) 2 2, .slice (some ⟨w.heap.size + 1 + 1, 0, none⟩) 3 3, .int .i64 120, .slice (some ⟨w.heap.size + 1 + 1 + 1, 0, none⟩) 4 4, .slice none 0 0, .int .i64 3, .int .i64 3, .int .i64 3] 25) = w1
  have hs1 : w1.heap.size = w.heap.size + 1 := by rw [← hw1]; simp
  have hb1 : Below w.heap.size w w1 := by rw [← hw1]; exact (Below.refl w.heap.size w).alloc (Nat.le_refl _) _
  have hg1 : w1.heap[w.heap.size]? = some (.cells #[.int .i64 4, .slice (some ⟨w.heap.size + 1, 0, none⟩) 2 2, .slice (some ⟨w.heap.size + 1 + 1, 0, none⟩) 3 3, .int .i64 120, .slice (some ⟨w.heap.size + 1 + 1 + 1, 0, none⟩) 4 4, .slice none 0 0, .int .i64 3, .int .i64 3, .int .i64 3] 25 (0, 0)) := by rw [← hw1]; exact heap_new _ _ _ rfl
  clear hw1
  have rp : Reads (w1.alloc (.cells #[.int .i64 0, .int .i64 2] 3)) eI (some ⟨w.heap.size + 1, 0, none⟩) 2 [0, 2] := reads_new _ _ _ _ hs1.symm [0, 2] rfl rfl (by omega)
  generalize hw2 : w1.alloc (.cells #[.int .i64 0, .int .i64 2] 3) = w2 at rp ⊢
  have hs2 : w2.heap.size = w.heap.size + 2 := by rw [← hw2]; simp [hs1]
  have hb2 : Below w1.heap.size w1 w2 := by rw [← hw2]; exact (Below.refl w1.heap.size w1).alloc (Nat.le_refl _) _
  clear hw2
  have rs : Reads (w2.alloc (.cells #[.int .i64 0, .int .i64 1, .int .i64 1] 3)) eI (some ⟨w.heap.size + 1 + 1, 0, none⟩) 3 [0, 1, 1] := reads_new _ _ _ _ (by rw [hs2]) [0, 1, 1] rfl rfl (by omega)
  generalize hw3 : w2.alloc (.cells #[.int .i64 0, .int .i64 1, .int .i64 1] 3) = w3 at rs ⊢
  have hs3 : w3.heap.size = w.heap.size + 3 := by rw [← hw3]; simp [hs2]
  have hb3 : Below w2.heap.size w2 w3 := by rw [← hw3]; exact (Below.refl w2.heap.size w2).alloc (Nat.le_refl _) _
  clear hw3
  have rb : Reads (w3.alloc (.cells #[.int .i64 0, .int .i64 0, .int .i64 0, .int .i64 0] 3)) eI (some ⟨w.heap.size + 1 + 1 + 1, 0, none⟩) 4 [0, 0, 0, 0] := reads_new _ _ _ _ (by rw [hs3]) [0, 0, 0, 0] rfl rfl (by omega)
  generalize hw4 : w3.alloc (.cells #[.int .i64 0, .int .i64 0, .int .i64 0, .int .i64 0] 3) = w4 at rb ⊢
  have hb4 : Below w3.heap.size w3 w4 := by rw [← hw4]; exact (Below.refl w3.heap.size w3).alloc (Nat.le_refl _) _
  clear hw4
  have hb24 : Below w2.heap.size w2 w4 := hb3.trans (hb4.mono (by omega))
  have hb14 : Below w1.heap.size w1 w4 := hb2.trans (hb24.mono (by omega))
  have hg4 := (hb14.block w.heap.size (by omega)).trans hg1
  have q0 := heap_cell hg4 0
  have q1 := heap_cell hg4 1
  have q2 := heap_cell hg4 2
  have q3 := heap_cell hg4 3
  have q4 := heap_cell hg4 4
  have q5 := heap_cell hg4 5
  have q6 := heap_cell hg4 6
  have q7 := heap_cell hg4 7
  have q8 := heap_cell hg4 8
  simp only [List.getElem?_toArray, List.getElem?_cons_zero, List.getElem?_cons_succ] at q0 q1 q2 q3 q4 q5 q6 q7 q8
  refine bodyPost_ret (v := .agg #[.int .i64 4, .slice (some ⟨w.heap.size + 1, 0, none⟩) 2 2, .slice (some ⟨w.heap.size + 1 + 1, 0, none⟩) 3 3, .int .i64 120, .slice (some ⟨w.heap.size + 1 + 1 + 1, 0, none⟩) 4 4, .slice none 0 0, .int .i64 3, .int .i64 3, .int .i64 3]) (by simp [results, Tryd.results35, go_sem, q0, q1, q2, q3, q4, q5, q6, q7, q8]) rfl ?_
  have ok : ∀ (b n : Nat), SliceOK (some ⟨b, 0, none⟩) n n := fun b n => ⟨Nat.le_refl _, (fun h => by cases h), fun _ h => by cases h; exact ⟨b, 0, rfl⟩⟩
  exact ⟨_, _, _, rfl, ⟨ok _ _, ok _ _, ok _ _, ⟨Nat.le_refl _, fun _ => ⟨rfl, rfl⟩, fun _ h => by cases h⟩, rp.below hb24, rs.below hb4, rb, ⟨rfl, by omega, fun i hi => by omega⟩⟩, hb1.trans (hb14.mono (by omega))⟩

/-- What is wrong with a config, asked of New. -/
theorem wrong_any (nodes long miss good fresh : Int) (pa sa ba ta : Option Addr) (pn pc sn sc bn bc tn tc : Nat) (ps ss bs : List Int) (ts : List (Int × Int × Int)) (w : World) (hs : Signs w) (hC : CfgIn w nodes long miss good fresh pa sa ba ta pn pc sn sc bn bc tn tc ps ss bs ts) :
    Calls Tryd.prog 34 #[.agg #[.int .i64 nodes, .slice pa pn pc, .slice sa sn sc, .int .i64 long, .slice ba bn bc, .slice ta tn tc, .int .i64 miss, .int .i64 good, .int .i64 fresh]] w fun e w' => e = .returned (.int .i64 (Cfg.mk nodes long miss good fresh ps ss bs ts).err) ∧ Below w.heap.size w w' := by
  have hb0 := (Below.refl w.heap.size w).alloc (Nat.le_refl _) (.cells #[.int .i64 nodes, .slice pa pn pc, .slice sa sn sc, .int .i64 long, .slice ba bn bc, .slice ta tn tc, .int .i64 miss, .int .i64 good, .int .i64 fresh] 25)
  have hN := new_any nodes long miss good fresh pa sa ba ta pn pc sn sc bn bc tn tc ps ss bs ts _ (hs.below hb0) (hC.below hb0)
  obtain ⟨c, hc⟩ : ∃ c, c = Cfg.mk nodes long miss good fresh ps ss bs ts := ⟨_, rfl⟩
  rw [← hc] at hN ⊢
  clear hc
  go_enter Tryd.func34, Tryd.ntmps34
  go_wp2_with fail
  refine hN.mono ?_
  rintro e w3 hP
  rcases hP with ⟨h0, rfl, hb3⟩ | ⟨h0, b, rfl, hA, hb3⟩
  · go_wp2
    go_ret
    exact ⟨rfl, hb0.trans (hb3.mono (by simp))⟩
  · have HE := Lib.hid h0
    clear h0
    go_wp2
    go_ret
    exact ⟨ret_int HE.out.symm, hb0.trans (hb3.mono (by simp))⟩

def smallC : Cfg := ⟨4, 120, 3, 3, 3, [0, 2], [0, 1, 1], [0, 0, 0, 0], []⟩
theorem smallC_err : smallC.err = 0 := by decide +kernel
def cfgLoad (v : Value) : Sem Value := Instr.loadAt 25 v
theorem cfgLoad_eq (v : Value) : Instr.loadAt 25 v = cfgLoad v := rfl
theorem load_block' {P : Program} (w : World) (g : Nat) (ty t : TypeId) (cs : Array Value) (fr : Nat × Nat) (d : TypeDesc) (hu : P.underlying ty = some d) (hd : (match d with | .struct _ | .array _ _ => true | _ => false) = true) (hi : (P.info? ty).map (·.size) = some cs.size)
    (hg : w.heap[g]? = some (.cells cs t fr)) : (Instr.loadAt ty (.pointer (some ⟨g, 0, none⟩))).run P w = .ok (.agg cs) w := by
  simp only [Instr.loadAt, Instr.sureAddr, Sem.run_bind, Sem.run_pure, Result.andThen]
  exact run_loadVar_row w g t ty cs fr d hg hu hd hi
theorem run_cfgLoad (W : World) (g : Nat) (cs : Array Value) (h : W.heap[g]? = some (.cells cs 25 (0, 0))) (hs : cs.size = 9) : (cfgLoad (.pointer (some ⟨g, 0, none⟩))).run Tryd.prog W = .ok (.agg cs) W :=
  load_block' W g _ _ cs (0, 0) _ Tryd.underlying25 rfl (by rw [hs]; kernel_rfl) h
attribute [local go_sem ↓ high] cfgLoad_eq
attribute [local go_sem high] run_cfgLoad
set_option maxRecDepth 100000 in
set_option maxHeartbeats 8000000 in
theorem lives04_any (w : World) (hs : Signs w) :
    Calls Tryd.prog 31 #[] w fun e w' => e = .returned (.bool true) ∧ Below w.heap.size w w' := by
  have HS := Lib.hid hs
  clear hs
  go_enter Tryd.func31, Tryd.ntmps31
  go_wp2_with fail
  refine (small_any _).mono ?_
  rintro e w1 ⟨pa, sa, ba, rfl, hC, hb1⟩
  go_wp2_with fail
  refine (new_any _ _ _ _ _ _ _ _ _ _ _ _ _ _ _ _ _ _ _ _ _ _ (HS.out.below hb1) hC).mono ?_
  rintro e w2 hN
  rcases hN with ⟨h0, _⟩ | ⟨_, b, rfl, hA, hb2⟩
  · exact absurd smallC_err h0
  have HP := Lib.hid (show NetP w2 (some ⟨b, 0, none⟩) smallC smallC.pairs from hA.ptr (Cfg.ok smallC_err))
  have HB2 := Lib.hid (hb1.trans (hb2.mono hb1.size))
  clear hA hC hb1 hb2
  go_wp2_with fail
  refine (small_any _).mono ?_
  rintro e w3 ⟨pa3, sa3, ba3, rfl, hC3, hb3⟩
  go_wp2_with fail
  refine (small_any _).mono ?_
  rintro e w4 ⟨pa4, sa4, ba4, rfl, hC4, hb4⟩
  go_wp2_with fail
  refine (small_any _).mono ?_
  rintro e w5 ⟨pa5, sa5, ba5, rfl, hC5, hb5⟩
  go_wp2_with fail
  refine (small_any _).mono ?_
  rintro e w6 ⟨pa6, sa6, ba6, rfl, hC6, hb6⟩
  go_wp2_with fail
  have ok : ∀ (b n : Nat), SliceOK (some ⟨b, 0, none⟩) n n := fun b n => ⟨Nat.le_refl _, (fun h => by cases h), fun _ h => by cases h; exact ⟨b, 0, rfl⟩⟩
  have r3 : (w3.alloc (.cells #[.int .i64 4, .slice pa3 2 2, .slice sa3 3 3, .int .i64 119, .slice ba3 4 4, .slice none 0 0, .int .i64 3, .int .i64 3, .int .i64 3] 25)).heap[w3.heap.size]? = some (.cells #[.int .i64 4, .slice pa3 2 2, .slice sa3 3 3, .int .i64 119, .slice ba3 4 4, .slice none 0 0, .int .i64 3, .int .i64 3, .int .i64 3] 25 (0, 0)) := heap_new _ _ _ rfl
  have r4 : (w4.alloc (.cells #[.int .i64 17, .slice pa4 2 2, .slice sa4 3 3, .int .i64 120, .slice ba4 4 4, .slice none 0 0, .int .i64 3, .int .i64 3, .int .i64 3] 25)).heap[w4.heap.size]? = some (.cells #[.int .i64 17, .slice pa4 2 2, .slice sa4 3 3, .int .i64 120, .slice ba4 4 4, .slice none 0 0, .int .i64 3, .int .i64 3, .int .i64 3] 25 (0, 0)) := heap_new _ _ _ rfl
  have r5 : ((w5.alloc (.cells #[.int .i64 4, .slice (some ⟨w5.heap.size + 1, 0, none⟩) 2 2, .slice sa5 3 3, .int .i64 120, .slice ba5 4 4, .slice none 0 0, .int .i64 3, .int .i64 3, .int .i64 3] 25)).alloc (.cells #[.int .i64 0, .int .i64 1] 3)).heap[w5.heap.size]? = some (.cells #[.int .i64 4, .slice (some ⟨w5.heap.size + 1, 0, none⟩) 2 2, .slice sa5 3 3, .int .i64 120, .slice ba5 4 4, .slice none 0 0, .int .i64 3, .int .i64 3, .int .i64 3] 25 (0, 0)) := heap_alloc2_old w5 _ _
  have r6 : ((w6.alloc (.cells #[.int .i64 4, .slice (some ⟨w6.heap.size + 1, 0, none⟩) 2 2, .slice sa6 3 3, .int .i64 120, .slice ba6 4 4, .slice none 0 0, .int .i64 3, .int .i64 3, .int .i64 3] 25)).alloc (.cells #[.int .i64 0, .int .i64 3] 3)).heap[w6.heap.size]? = some (.cells #[.int .i64 4, .slice (some ⟨w6.heap.size + 1, 0, none⟩) 2 2, .slice sa6 3 3, .int .i64 120, .slice ba6 4 4, .slice none 0 0, .int .i64 3, .int .i64 3, .int .i64 3] 25 (0, 0)) := heap_alloc2_old w6 _ _
  have p5 : Reads ((w5.alloc (.cells #[.int .i64 4, .slice (some ⟨w5.heap.size + 1, 0, none⟩) 2 2, .slice sa5 3 3, .int .i64 120, .slice ba5 4 4, .slice none 0 0, .int .i64 3, .int .i64 3, .int .i64 3] 25)).alloc (.cells #[.int .i64 0, .int .i64 1] 3)) eI (some ⟨w5.heap.size + 1, 0, none⟩) 2 [0, 1] := reads_new _ _ _ _ (by simp) [0, 1] rfl rfl (by omega)
  have p6 : Reads ((w6.alloc (.cells #[.int .i64 4, .slice (some ⟨w6.heap.size + 1, 0, none⟩) 2 2, .slice sa6 3 3, .int .i64 120, .slice ba6 4 4, .slice none 0 0, .int .i64 3, .int .i64 3, .int .i64 3] 25)).alloc (.cells #[.int .i64 0, .int .i64 3] 3)) eI (some ⟨w6.heap.size + 1, 0, none⟩) 2 [0, 3] := reads_new _ _ _ _ (by simp) [0, 3] rfl rfl (by omega)
  have b3a : Below w3.heap.size w3 (w3.alloc (.cells #[.int .i64 4, .slice pa3 2 2, .slice sa3 3 3, .int .i64 119, .slice ba3 4 4, .slice none 0 0, .int .i64 3, .int .i64 3, .int .i64 3] 25)) := (Below.refl w3.heap.size w3).alloc (Nat.le_refl _) _
  have b4a : Below w4.heap.size w4 (w4.alloc (.cells #[.int .i64 17, .slice pa4 2 2, .slice sa4 3 3, .int .i64 120, .slice ba4 4 4, .slice none 0 0, .int .i64 3, .int .i64 3, .int .i64 3] 25)) := (Below.refl w4.heap.size w4).alloc (Nat.le_refl _) _
  have b5a : Below w5.heap.size w5 ((w5.alloc (.cells #[.int .i64 4, .slice (some ⟨w5.heap.size + 1, 0, none⟩) 2 2, .slice sa5 3 3, .int .i64 120, .slice ba5 4 4, .slice none 0 0, .int .i64 3, .int .i64 3, .int .i64 3] 25)).alloc (.cells #[.int .i64 0, .int .i64 1] 3)) := ((Below.refl w5.heap.size w5).alloc (Nat.le_refl _) _).alloc (by simp) _
  have b6a : Below w6.heap.size w6 ((w6.alloc (.cells #[.int .i64 4, .slice (some ⟨w6.heap.size + 1, 0, none⟩) 2 2, .slice sa6 3 3, .int .i64 120, .slice ba6 4 4, .slice none 0 0, .int .i64 3, .int .i64 3, .int .i64 3] 25)).alloc (.cells #[.int .i64 0, .int .i64 3] 3)) := ((Below.refl w6.heap.size w6).alloc (Nat.le_refl _) _).alloc (by simp) _
  have s3a : (w3.alloc (.cells #[.int .i64 4, .slice pa3 2 2, .slice sa3 3 3, .int .i64 119, .slice ba3 4 4, .slice none 0 0, .int .i64 3, .int .i64 3, .int .i64 3] 25)).heap.size = w3.heap.size + 1 := by simp
  have s4a : (w4.alloc (.cells #[.int .i64 17, .slice pa4 2 2, .slice sa4 3 3, .int .i64 120, .slice ba4 4 4, .slice none 0 0, .int .i64 3, .int .i64 3, .int .i64 3] 25)).heap.size = w4.heap.size + 1 := by simp
  have s5a : ((w5.alloc (.cells #[.int .i64 4, .slice (some ⟨w5.heap.size + 1, 0, none⟩) 2 2, .slice sa5 3 3, .int .i64 120, .slice ba5 4 4, .slice none 0 0, .int .i64 3, .int .i64 3, .int .i64 3] 25)).alloc (.cells #[.int .i64 0, .int .i64 1] 3)).heap.size = w5.heap.size + 2 := by simp
  have s6a : ((w6.alloc (.cells #[.int .i64 4, .slice (some ⟨w6.heap.size + 1, 0, none⟩) 2 2, .slice sa6 3 3, .int .i64 120, .slice ba6 4 4, .slice none 0 0, .int .i64 3, .int .i64 3, .int .i64 3] 25)).alloc (.cells #[.int .i64 0, .int .i64 3] 3)).heap.size = w6.heap.size + 2 := by simp
  generalize w3.alloc (.cells #[.int .i64 4, .slice pa3 2 2, .slice sa3 3 3, .int .i64 119, .slice ba3 4 4, .slice none 0 0, .int .i64 3, .int .i64 3, .int .i64 3] 25) = v3 at r3 b3a s3a hb4
  generalize w4.alloc (.cells #[.int .i64 17, .slice pa4 2 2, .slice sa4 3 3, .int .i64 120, .slice ba4 4 4, .slice none 0 0, .int .i64 3, .int .i64 3, .int .i64 3] 25) = v4 at r4 b4a s4a hb5
  generalize (w5.alloc (.cells #[.int .i64 4, .slice (some ⟨w5.heap.size + 1, 0, none⟩) 2 2, .slice sa5 3 3, .int .i64 120, .slice ba5 4 4, .slice none 0 0, .int .i64 3, .int .i64 3, .int .i64 3] 25)).alloc (.cells #[.int .i64 0, .int .i64 1] 3) = v5 at r5 b5a s5a p5 hb6
  generalize (w6.alloc (.cells #[.int .i64 4, .slice (some ⟨w6.heap.size + 1, 0, none⟩) 2 2, .slice sa6 3 3, .int .i64 120, .slice ba6 4 4, .slice none 0 0, .int .i64 3, .int .i64 3, .int .i64 3] 25)).alloc (.cells #[.int .i64 0, .int .i64 3] 3) = v6 at r6 b6a s6a p6 ⊢
  have z3 := hb3.size
  have z4 := hb4.size
  have z5 := hb5.size
  have z6 := hb6.size
  have x6 := b6a
  have x5 : Below v5.heap.size v5 v6 := hb6.trans (b6a.mono (by omega))
  have x5w : Below w5.heap.size w5 v6 := b5a.trans (x5.mono (by omega))
  have x4 : Below v4.heap.size v4 v6 := hb5.trans (x5w.mono (by omega))
  have x4w : Below w4.heap.size w4 v6 := b4a.trans (x4.mono (by omega))
  have x3 : Below v3.heap.size v3 v6 := hb4.trans (x4w.mono (by omega))
  have x3w : Below w3.heap.size w3 v6 := b3a.trans (x3.mono (by omega))
  have x2 : Below w2.heap.size w2 v6 := hb3.trans (x3w.mono (by omega))
  have q3 := (x3.block w3.heap.size (by omega)).trans r3
  have q4 := (x4.block w4.heap.size (by omega)).trans r4
  have q5 := (x5.block w5.heap.size (by omega)).trans r5
  have q6 := r6
  have C3 := hC3.below x3w
  have C4 := hC4.below x4w
  have C5a := hC5.below x5w
  have C6a := hC6.below x6
  have C5 : CfgIn v6 4 120 3 3 3 (some ⟨w5.heap.size + 1, 0, none⟩) sa5 ba5 none 2 2 3 3 4 4 0 0 [0, 1] [0, 1, 1] [0, 0, 0, 0] [] := ⟨ok _ _, C5a.os, C5a.ob, C5a.ot, p5.below x5, C5a.rs, C5a.rb, C5a.rt⟩
  have C6 : CfgIn v6 4 120 3 3 3 (some ⟨w6.heap.size + 1, 0, none⟩) sa6 ba6 none 2 2 3 3 4 4 0 0 [0, 3] [0, 1, 1] [0, 0, 0, 0] [] := ⟨ok _ _, C6a.os, C6a.ob, C6a.ot, p6, C6a.rs, C6a.rb, C6a.rt⟩
  have C3' : CfgIn v6 4 119 3 3 3 pa3 sa3 ba3 none 2 2 3 3 4 4 0 0 [0, 2] [0, 1, 1] [0, 0, 0, 0] [] := ⟨C3.op, C3.os, C3.ob, C3.ot, C3.rp, C3.rs, C3.rb, C3.rt⟩
  have C4' : CfgIn v6 17 120 3 3 3 pa4 sa4 ba4 none 2 2 3 3 4 4 0 0 [0, 2] [0, 1, 1] [0, 0, 0, 0] [] := ⟨C4.op, C4.os, C4.ob, C4.ot, C4.rp, C4.rs, C4.rb, C4.rt⟩
  have HBV := Lib.hid (HB2.out.trans (x2.mono HB2.out.size))
  have HP6 := Lib.hid (HP.out.below x2)
  have g3 : w3.heap.size < v6.heap.size := by have := x3w.size; have := x3.size; omega
  have g4 : w4.heap.size < v6.heap.size := by have := x4.size; omega
  have g5 : w5.heap.size < v6.heap.size := by have := x5.size; omega
  have g6 : w6.heap.size < v6.heap.size := by omega
  have G := Lib.hid (⟨g3, g4, g5, g6⟩ : _ ∧ _ ∧ _ ∧ _)
  have KR : ∀ W, Below v6.heap.size v6 W → W.heap[w3.heap.size]? = some (.cells #[.int .i64 4, .slice pa3 2 2, .slice sa3 3 3, .int .i64 119, .slice ba3 4 4, .slice none 0 0, .int .i64 3, .int .i64 3, .int .i64 3] 25 (0, 0)) ∧ W.heap[w4.heap.size]? = some (.cells #[.int .i64 17, .slice pa4 2 2, .slice sa4 3 3, .int .i64 120, .slice ba4 4 4, .slice none 0 0, .int .i64 3, .int .i64 3, .int .i64 3] 25 (0, 0)) ∧ W.heap[w5.heap.size]? = some (.cells #[.int .i64 4, .slice (some ⟨w5.heap.size + 1, 0, none⟩) 2 2, .slice sa5 3 3, .int .i64 120, .slice ba5 4 4, .slice none 0 0, .int .i64 3, .int .i64 3, .int .i64 3] 25 (0, 0)) ∧ W.heap[w6.heap.size]? = some (.cells #[.int .i64 4, .slice (some ⟨w6.heap.size + 1, 0, none⟩) 2 2, .slice sa6 3 3, .int .i64 120, .slice ba6 4 4, .slice none 0 0, .int .i64 3, .int .i64 3, .int .i64 3] 25 (0, 0)) :=
    fun W hb => ⟨(hb.block _ g3).trans q3, (hb.block _ g4).trans q4, (hb.block _ g5).trans q5, (hb.block _ g6).trans q6⟩
  have D1 : ∀ W, Below v6.heap.size v6 W → Calls Tryd.prog 36 #[.pointer (some ⟨b, 0, none⟩)] W fun e w' => e = .returned (.int .i64 360) ∧ Below v6.heap.size v6 w' := fun W hb =>
    (netround_any _ smallC _ W (HP6.out.below hb) (fun _ => by decide)).mono fun e w' ⟨h1, k, h2⟩ => ⟨h1.trans (ret_int (by decide +kernel)), by rw [h2]; exact below_drewN hb k⟩
  have D2 : ∀ W, Below v6.heap.size v6 W → Calls Tryd.prog 37 #[.pointer (some ⟨b, 0, none⟩), .int .i64 2] W fun e w' => e = .returned (.int .i64 1) ∧ Below v6.heap.size v6 w' := fun W hb =>
    (owner_any _ smallC _ 2 W (HP6.out.below hb)).mono fun e w' ⟨h1, h2⟩ => ⟨h1.trans (ret_int (by decide +kernel)), by rw [← h2]; exact hb⟩
  have D3 : ∀ W, Below v6.heap.size v6 W → Calls Tryd.prog 39 #[.pointer (some ⟨b, 0, none⟩), .int .i64 3] W fun e w' => e = .returned (.int .i64 1) ∧ Below v6.heap.size v6 w' := fun W hb =>
    (pair_any _ smallC _ 3 W (HP6.out.below hb)).mono fun e w' ⟨h1, h2⟩ => ⟨h1.trans (ret_int (by decide +kernel)), by rw [← h2]; exact hb⟩
  have D4 : ∀ W, Below v6.heap.size v6 W → Calls Tryd.prog 40 #[.pointer (some ⟨b, 0, none⟩), .int .i64 3] W fun e w' => e = .returned (.int .i64 2) ∧ Below v6.heap.size v6 w' := fun W hb =>
    (partner_any _ smallC _ 3 W (HP6.out.below hb) (HS.out.below (HBV.out.trans (hb.mono HBV.out.size)))).mono fun e w' ⟨h1, k, h2⟩ => ⟨h1.trans (ret_int (by decide +kernel)), by rw [h2]; exact below_drewN hb k⟩
  have D5 : ∀ W, Below v6.heap.size v6 W → Calls Tryd.prog 41 #[.pointer (some ⟨b, 0, none⟩), .int .i64 3, .int .i64 1] W fun e w' => e = .returned (.int .i64 4) ∧ Below v6.heap.size v6 w' := fun W hb => by
    rcases HP6.out.below hb with ⟨h, _⟩ | ⟨b', pa', sa', ba', ta', qa', h, hv⟩
    · cases h
    · cases h
      exact (nextslot_any b pa' sa' ba' ta' qa' smallC (Cfg.ok smallC_err) 3 1 W hv).mono fun e w' ⟨h1, k, h2⟩ => ⟨h1.trans (ret_int (by decide +kernel)), by rw [h2]; exact below_drewN hb k⟩
  have DW : ∀ {nodes long : Int} {pa sa ba : Option Addr} {ps : List Int} (x : Int), CfgIn v6 nodes long 3 3 3 pa sa ba none 2 2 3 3 4 4 0 0 ps [0, 1, 1] [0, 0, 0, 0] [] → (Cfg.mk nodes long 3 3 3 ps [0, 1, 1] [0, 0, 0, 0] []).err = x → ∀ W, Below v6.heap.size v6 W →
      Calls Tryd.prog 34 #[.agg #[.int .i64 nodes, .slice pa 2 2, .slice sa 3 3, .int .i64 long, .slice ba 4 4, .slice none 0 0, .int .i64 3, .int .i64 3, .int .i64 3]] W fun e w' => e = .returned (.int .i64 x) ∧ Below v6.heap.size v6 w' := fun x hC hx W hb =>
    (wrong_any _ _ _ _ _ _ _ _ _ _ _ _ _ _ _ _ _ _ _ _ _ W (HS.out.below (HBV.out.trans (hb.mono HBV.out.size))) (hC.below hb)).mono fun e w' ⟨h1, h2⟩ => ⟨h1.trans (ret_int hx), hb.trans (h2.mono hb.size)⟩
  have D6 := DW 1 C3' (by decide +kernel)
  have D7 := DW 3 C4' (by decide +kernel)
  have D8 := DW 1 C5 (by decide +kernel)
  have D9 := DW 1 C6 (by decide +kernel)
  have E1 := Lib.hid D1
  have E2 := Lib.hid D2
  have E3 := Lib.hid D3
  have E4 := Lib.hid D4
  have E5 := Lib.hid D5
  have E6 := Lib.hid D6
  have E7 := Lib.hid D7
  have E8 := Lib.hid D8
  have E9 := Lib.hid D9
  have KK := Lib.hid KR
  have h0 : Below v6.heap.size v6 v6 := Below.refl _ _
  clear D1 D2 D3 D4 D5 DW D6 D7 D8 D9 KR C3 C4 C5 C6 C5a C6a C3' C4' q3 q4 q5 q6 r3 r4 r5 r6 p5 p6 b3a b4a b5a b6a s3a s4a s5a s6a z3 z4 z5 z6 x6 x5 x5w x4 x4w x3 x3w x2 hC3 hC4 hC5 hC6 hb3 hb4 hb5 hb6 g3 g4 g5 g6 ok HP HB2
  refine (E1.out _ h0).mono ?_
  rintro e u1 ⟨rfl, h1⟩
  go_wp2_with fail
  refine (E2.out _ h1).mono ?_
  rintro e u2 ⟨rfl, h2⟩
  go_wp2_with fail
  refine (E3.out _ h2).mono ?_
  rintro e u3 ⟨rfl, h3⟩
  go_wp2_with fail
  refine (E4.out _ h3).mono ?_
  rintro e u4 ⟨rfl, h4⟩
  go_wp2_with fail
  refine (E5.out _ h4).mono ?_
  rintro e u5 ⟨rfl, h5⟩
  obtain ⟨y3, y4, y5, y6⟩ := KK.out _ h5
  go_wp2_with fail
  clear y3 y4 y5 y6
  refine (E6.out _ h5).mono ?_
  rintro e u6 ⟨rfl, h6⟩
  obtain ⟨y3, y4, y5, y6⟩ := KK.out _ h6
  go_wp2_with fail
  clear y3 y4 y5 y6
  refine (E7.out _ h6).mono ?_
  rintro e u7 ⟨rfl, h7⟩
  obtain ⟨y3, y4, y5, y6⟩ := KK.out _ h7
  go_wp2_with fail
  clear y3 y4 y5 y6
  refine (E8.out _ h7).mono ?_
  rintro e u8 ⟨rfl, h8⟩
  obtain ⟨y3, y4, y5, y6⟩ := KK.out _ h8
  go_wp2_with fail
  clear y3 y4 y5 y6
  refine (E9.out _ h8).mono ?_
  rintro e u9 ⟨rfl, h9⟩
  go_wp2
  go_ret
  exact ⟨rfl, HBV.out.trans (h9.mono HBV.out.size)⟩
end Go.Proofs.YtibncdkekceokaaDoor
