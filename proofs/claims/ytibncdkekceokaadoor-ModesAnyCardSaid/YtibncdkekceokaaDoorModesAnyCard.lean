/- ModesAny: whatever the config, the view and the two numbers, the law answers true, and what came in reads as it did. Conditions: the tables rings.signs and modes.edges lie as the program's text lays them. -/
import Derived.Test.YtibncdkekceokaaDoorModesAny
import Derived.Test.YtibncdkekceokaaDoorCoreC
import Derived.Test.YtibncdkekceokaaDoorCoreM
import Derived.Test.YtibncdkekceokaaDoorOpenS
import Derived.Test.YtibncdkekceokaaDoorCards
import Derived.Test.YtibncdkekceokaaDoorTie
import Derived.Stop.Joined
import Derived.SevenTiedAt
namespace Go.Proofs.YtibncdkekceokaaDoor
open Go.ChangeShapes Go.WideShapes Go.ChangeAt Go.WideMaps Go.WideElems Go.RowKit

theorem modesAny_hts : (Tryd.f3.params.toList.all fun t => Tryd.prog.readableRec t && decide (t < Tryd.prog.types.size)) = true := by kernel_rfl
set_option maxRecDepth 100000 in
theorem modesAny_door (os : Os) (args : Array Value) : laidMetH Tryd.prog Rows.modesAnyRow.laid ((World.doorLaid Tryd.prog 29 os).forCall (fun _ _ => 0) ⟨#[], args, []⟩).memory :=
  laidMetH_of_parts3 (fuel := 8) (laidMet_of_run' 8 (by kernel_rfl) (by kernel_rfl)) (by kernel_rfl) (by kernel_rfl)
set_option maxRecDepth 100000 in
theorem modesAny_lifted (os : Os) (started : os.Started) (H : Type) (enc : TypeId × Value → H) :
    ReturnsInHanded {} Tryd.checked os 3 .any (fun w args => (Rows.modesAnySpec.pre enc Tryd.prog Tryd.f3 [] false w args ∧ laidMetH Tryd.prog Rows.modesAnyRow.laid w) ∧ sizedMet enc Tryd.prog Tryd.f3 (OpenSpec.ofChange Rows.modesAnySpec) false w args)
      (Rows.modesAnySpec.post enc Tryd.prog Tryd.f3 false true false false) := by
  refine returnsInHanded_of_change_and (C := Tryd.checked) (X := fun w _ => laidMetH Tryd.prog Rows.modesAnyRow.laid w) (fun _ _ _ hh h => h.of_heap hh) own started (by kernel_rfl) Tryd.func3
    (ChangeSpec.witness_shaped (enc := enc) (C := Tryd.checked) (os := os) (X := fun w _ => laidMetH Tryd.prog Rows.modesAnyRow.laid w) false (World.doorLaid Tryd.prog 29 os) #[.agg #[.int .i64 0, .slice none 0 0, .slice none 0 0, .int .i64 0, .slice none 0 0, .slice none 0 0, .int .i64 0, .int .i64 0, .int .i64 0], .agg #[.bool false, .bool false, .bool false, .bool false, .bool false, .bool false, .bool false, .bool false, .int .u8 0, .int .u8 0, .int .u8 0, .int .u8 0, .int .u8 0, .int .u8 0, .int .u8 0, .int .u8 0, .int .u8 0, .int .u8 0, .int .u8 0, .int .u8 0, .int .u8 0, .int .u8 0, .int .u8 0, .int .u8 0, .int .u16 0, .int .u16 0, .int .u16 0, .int .u16 0, .int .u16 0, .int .u16 0, .int .u16 0, .int .u16 0, .bool false, .bool false, .bool false, .bool false, .bool false, .bool false, .bool false, .bool false, .int .i8 0, .int .u8 0], .agg #[.int .u8 0, .int .u8 0]] 8 rfl (World.shaped_of_RefB (by kernel_rfl) (by kernel_rfl)) (by kernel_rfl) (by kernel_rfl) (by kernel_rfl) (modesAny_door os _)) ?_
  intro W base args ds gs before hval0 hW _ _ hL _
  have hval : ∀ (j : Nat) t v, Tryd.f3.params[j]? = some t → args[j]? = some v → Value.okWide Tryd.prog W .any base t v := hval0
  have hW' := hW
  obtain ⟨p, q, hA0, hV, rfl, hfz, hnd⟩ := hW
  have hA : DataW.TrodAll enc Tryd.prog W 0 (fun _ => true) true Tryd.f3.params.toList args.toList ds p := hA0
  rw [Tryd.params3] at hA hval
  obtain ⟨v0, v1, v2, d0, d1, d2, p0, p1, p2, rfl, rfl, rfl, h0, h1, h2⟩ := trodAll_three hA
  obtain ⟨rfl, rfl⟩ := trodVars_none hV
  obtain ⟨nodes, long, miss, good, fresh, pa, sa, ba, ta, pn, pc, sn, sc, bn, bc, tn, tc, ps, ss, bs, ts, rfl, hC⟩ := open_cfg (hval 0 25 v0 rfl rfl) h0
  obtain ⟨vs, ins, cmd, md, rfl, hv⟩ := open_view (hval 1 32 v1 rfl rfl)
  obtain ⟨z0, z1, rfl, zb0, zb1⟩ := open_u8x2 (hval 2 33 v2 rfl rfl)
  have hS : Signs W := signs_of hL rfl (List.mem_cons_self)
  have hE : Edges W := edges_of hL rfl (List.mem_cons_of_mem _ (List.mem_cons_self))
  clear hA0 hval0
  refine (modesAny_walk nodes long miss good fresh pa sa ba ta pn pc sn sc bn bc tn tc ps ss bs ts vs ins cmd md z0 z1 zb0 zb1 W hS hE hC hv).mono fun e W' ⟨he, hb⟩ => ?_
  subst he
  exact ⟨_, rfl, post_true laidOut modesAny_hts rfl Tryd.underlying4 rfl rfl rfl rfl hW' hb⟩

theorem modesAny_named : Tryd.pinned.checked.prog.funcNamed Rows.modesAnyRow.func = some 3 := by kernel_rfl
theorem modesAny_closed : joinedFacts Tryd.pinned.checked.prog 3 Tryd.f3 Rows.modesAnySpec Rows.modesAnyRow = true := by kernel_rfl
theorem modesAny_inst : Tryd.f3.isInstance Tryd.pinned.checked.prog Rows.modesAnyRow.origin Rows.modesAnyRow.targs := of_decide_eq_true (by kernel_rfl)
theorem modesAny_wrap : Tryd.f3.isWrapper Tryd.pinned.checked.prog Rows.modesAnyRow.wrapper Rows.modesAnyRow.mainSum := by unfold Func.isWrapper; first | (rw [if_pos (by decide +kernel)]; kernel_rfl) | (rw [if_neg (by decide +kernel)]; exact ⟨rfl, rfl⟩)
theorem modesAny_row_holds : Rows.ModesAnySaid :=
  OpenClaim.holds_of_wide 3 Tryd.f3 rfl rfl rfl rfl rfl rfl rfl ⟨rfl, rfl, rfl, rfl, rfl⟩ rfl rfl rfl rfl rfl modesAny_named Tryd.func3 modesAny_closed
    modesAny_inst modesAny_wrap
    (fun os started H enc _ => modesAny_lifted os started H enc)
theorem modesAny_holds : Rows.ModesAnyCardSaid :=
  Claim7.holds_tied_plain_at .later [] [.data, .data] true Rows.modesAnyCard.stood.harness false
    modesAny_row_holds (fun _ h => by cases h) (by kernel_rfl) (fun _ h => by cases h) modesAny_row_tie rfl ⟨rfl, rfl⟩ (by kernel_rfl) rfl
    (fun f fn hf hfn => by
      obtain rfl : f = 3 := Option.some.inj ((show Tryd.prog.funcNamed "sennit/sennitlaw25.ModesAny" = some 3 by kernel_rfl).symm.trans hf) |>.symm
      obtain rfl : fn = Tryd.f3 := (Option.some.inj (Tryd.func3.symm.trans hfn)).symm
      exact ⟨by kernel_rfl, fun j t ht => by
        rw [Tryd.params3] at ht
        have hm : t ∈ [25, 32, 33] := by simpa using Array.mem_of_getElem? ht
        have hall : ([25, 32, 33].all fun u => !Tryd.prog.wantsStandIn u) = true := by kernel_rfl
        exact (show Tryd.prog.wantsStandIn t = false by simpa using List.all_eq_true.1 hall t hm)⟩)
    (by kernel_rfl)
#print axioms modesAny_holds
end Go.Proofs.YtibncdkekceokaaDoor
