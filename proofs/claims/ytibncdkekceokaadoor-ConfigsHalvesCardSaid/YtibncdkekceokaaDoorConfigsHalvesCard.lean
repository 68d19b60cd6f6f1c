/- ConfigsHalves: whatever the config and the slot, the law answers true, and what came in reads as it did. Condition: the table rings.signs lies as the program's text lays it. -/
import Derived.Test.YtibncdkekceokaaDoorConfigsHalves
import Derived.Test.YtibncdkekceokaaDoorCoreC
import Derived.Test.YtibncdkekceokaaDoorOpenS
import Derived.Test.YtibncdkekceokaaDoorCards
import Derived.Test.YtibncdkekceokaaDoorTie
import Derived.Stop.Joined
import Derived.SevenTiedAt
namespace Go.Proofs.YtibncdkekceokaaDoor
open Go.ChangeShapes Go.WideShapes Go.ChangeAt Go.WideMaps Go.WideElems Go.RowKit

theorem configsHalves_hts : (Tryd.f10.params.toList.all fun t => Tryd.prog.readableRec t && decide (t < Tryd.prog.types.size)) = true := by kernel_rfl
set_option maxRecDepth 100000 in
theorem configsHalves_door (os : Os) (args : Array Value) : laidMetH Tryd.prog Rows.configsHalvesRow.laid ((World.doorLaid Tryd.prog 29 os).forCall (fun _ _ => 0) ⟨#[], args, []⟩).memory :=
  laidMetH_of_parts3 (fuel := 8) (laidMet_of_run' 8 (by kernel_rfl) (by kernel_rfl)) (by kernel_rfl) (by kernel_rfl)
set_option maxRecDepth 100000 in
theorem configsHalves_lifted (os : Os) (started : os.Started) (H : Type) (enc : TypeId × Value → H) :
    ReturnsInHanded {} Tryd.checked os 10 .any (fun w args => (Rows.configsHalvesSpec.pre enc Tryd.prog Tryd.f10 [] false w args ∧ laidMetH Tryd.prog Rows.configsHalvesRow.laid w) ∧ sizedMet enc Tryd.prog Tryd.f10 (OpenSpec.ofChange Rows.configsHalvesSpec) false w args)
      (Rows.configsHalvesSpec.post enc Tryd.prog Tryd.f10 false true false false) := by
  refine returnsInHanded_of_change_and (C := Tryd.checked) (X := fun w _ => laidMetH Tryd.prog Rows.configsHalvesRow.laid w) (fun _ _ _ hh h => h.of_heap hh) own started (by kernel_rfl) Tryd.func10
    (ChangeSpec.witness_shaped (enc := enc) (C := Tryd.checked) (os := os) (X := fun w _ => laidMetH Tryd.prog Rows.configsHalvesRow.laid w) false (World.doorLaid Tryd.prog 29 os) #[.agg #[.int .i64 0, .slice none 0 0, .slice none 0 0, .int .i64 0, .slice none 0 0, .slice none 0 0, .int .i64 0, .int .i64 0, .int .i64 0], .int .i64 0] 8 rfl (World.shaped_of_RefB (by kernel_rfl) (by kernel_rfl)) (by kernel_rfl) (by kernel_rfl) (by kernel_rfl) (configsHalves_door os _)) ?_
  intro W base args ds gs before hval0 hW _ _ hL _
  have hval : ∀ (j : Nat) t v, Tryd.f10.params[j]? = some t → args[j]? = some v → Value.okWide Tryd.prog W .any base t v := hval0
  have hW' := hW
  obtain ⟨p, q, hA0, hV, rfl, hfz, hnd⟩ := hW
  have hA : DataW.TrodAll enc Tryd.prog W 0 (fun _ => true) true Tryd.f10.params.toList args.toList ds p := hA0
  rw [Tryd.params10] at hA hval
  obtain ⟨v0, v1, d0, d1, p0, p1, rfl, rfl, rfl, h0, h1⟩ := trodAll_two hA
  obtain ⟨rfl, rfl⟩ := trodVars_none hV
  obtain ⟨nodes, long, miss, good, fresh, pa, sa, ba, ta, pn, pc, sn, sc, bn, bc, tn, tc, ps, ss, bs, ts, rfl, hC⟩ := open_cfg (hval 0 25 v0 rfl rfl) h0
  obtain ⟨slot, rfl, slotb⟩ := open_i64 (hval 1 2 v1 rfl rfl)
  have hS : Signs W := signs_of hL rfl (List.mem_cons_self)
  clear hA0 hval0
  refine (configsHalves_walk nodes long miss good fresh pa sa ba ta pn pc sn sc bn bc tn tc ps ss bs ts slot W hS hC).mono fun e W' ⟨he, hb⟩ => ?_
  subst he
  exact ⟨_, rfl, post_true laidOut configsHalves_hts rfl Tryd.underlying4 rfl rfl rfl rfl hW' hb⟩

theorem configsHalves_named : Tryd.pinned.checked.prog.funcNamed Rows.configsHalvesRow.func = some 10 := by kernel_rfl
theorem configsHalves_closed : joinedFacts Tryd.pinned.checked.prog 10 Tryd.f10 Rows.configsHalvesSpec Rows.configsHalvesRow = true := by kernel_rfl
theorem configsHalves_inst : Tryd.f10.isInstance Tryd.pinned.checked.prog Rows.configsHalvesRow.origin Rows.configsHalvesRow.targs := of_decide_eq_true (by kernel_rfl)
theorem configsHalves_wrap : Tryd.f10.isWrapper Tryd.pinned.checked.prog Rows.configsHalvesRow.wrapper Rows.configsHalvesRow.mainSum := by unfold Func.isWrapper; first | (rw [if_pos (by decide +kernel)]; kernel_rfl) | (rw [if_neg (by decide +kernel)]; exact ⟨rfl, rfl⟩)
theorem configsHalves_row_holds : Rows.ConfigsHalvesSaid :=
  OpenClaim.holds_of_wide 10 Tryd.f10 rfl rfl rfl rfl rfl rfl rfl ⟨rfl, rfl, rfl, rfl, rfl⟩ rfl rfl rfl rfl rfl configsHalves_named Tryd.func10 configsHalves_closed
    configsHalves_inst configsHalves_wrap
    (fun os started H enc _ => configsHalves_lifted os started H enc)
theorem configsHalves_holds : Rows.ConfigsHalvesCardSaid :=
  Claim7.holds_tied_plain_at .later [] [.data] true Rows.configsHalvesCard.stood.harness false
    configsHalves_row_holds (fun _ h => by cases h) (by kernel_rfl) (fun _ h => by cases h) configsHalves_row_tie rfl ⟨rfl, rfl⟩ (by kernel_rfl) rfl
    (fun f fn hf hfn => by
      obtain rfl : f = 10 := Option.some.inj ((show Tryd.prog.funcNamed "sennit/sennitlaw04.ConfigsHalves" = some 10 by kernel_rfl).symm.trans hf) |>.symm
      obtain rfl : fn = Tryd.f10 := (Option.some.inj (Tryd.func10.symm.trans hfn)).symm
      exact ⟨by kernel_rfl, fun j t ht => by
        rw [Tryd.params10] at ht
        have hm : t ∈ [25, 2] := by simpa using Array.mem_of_getElem? ht
        have hall : ([25, 2].all fun u => !Tryd.prog.wantsStandIn u) = true := by kernel_rfl
        exact (show Tryd.prog.wantsStandIn t = false by simpa using List.all_eq_true.1 hall t hm)⟩)
    (by kernel_rfl)
#print axioms configsHalves_holds
end Go.Proofs.YtibncdkekceokaaDoor
