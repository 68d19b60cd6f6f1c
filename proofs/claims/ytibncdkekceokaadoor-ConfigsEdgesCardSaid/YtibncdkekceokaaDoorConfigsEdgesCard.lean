/- ConfigsEdges: whichever the number and however many the nodes, the law answers true, and what came in reads as it did. Condition: the table rings.signs lies as the program's text lays it. -/
import Derived.Test.YtibncdkekceokaaDoorConfigsEdges
import Derived.Test.YtibncdkekceokaaDoorOpenS
import Derived.Test.YtibncdkekceokaaDoorCoreC
import Derived.Test.YtibncdkekceokaaDoorCards
import Derived.Test.YtibncdkekceokaaDoorTie
import Derived.Stop.Joined
import Derived.SevenTiedAt
namespace Go.Proofs.YtibncdkekceokaaDoor
open Go.ChangeShapes Go.WideShapes Go.ChangeAt Go.WideMaps Go.WideElems Go.RowKit

theorem configsEdges_hts : (Tryd.f8.params.toList.all fun t => Tryd.prog.readableRec t && decide (t < Tryd.prog.types.size)) = true := by kernel_rfl
set_option maxRecDepth 100000 in
theorem configsEdges_door (os : Os) (args : Array Value) : laidMetH Tryd.prog Rows.configsEdgesRow.laid ((World.doorLaid Tryd.prog 29 os).forCall (fun _ _ => 0) ⟨#[], args, []⟩).memory :=
  laidMetH_of_parts3 (fuel := 8) (laidMet_of_run' 8 (by kernel_rfl) (by kernel_rfl)) (by kernel_rfl) (by kernel_rfl)
set_option maxRecDepth 100000 in
theorem configsEdges_lifted (os : Os) (started : os.Started) (H : Type) (enc : TypeId × Value → H) :
    ReturnsInHanded {} Tryd.checked os 8 .any (fun w args => (Rows.configsEdgesSpec.pre enc Tryd.prog Tryd.f8 [] false w args ∧ laidMetH Tryd.prog Rows.configsEdgesRow.laid w) ∧ sizedMet enc Tryd.prog Tryd.f8 (OpenSpec.ofChange Rows.configsEdgesSpec) false w args)
      (Rows.configsEdgesSpec.post enc Tryd.prog Tryd.f8 false true false false) := by
  refine returnsInHanded_of_change_and (C := Tryd.checked) (X := fun w _ => laidMetH Tryd.prog Rows.configsEdgesRow.laid w) (fun _ _ _ hh h => h.of_heap hh) own started (by kernel_rfl) Tryd.func8
    (ChangeSpec.witness_shaped (enc := enc) (C := Tryd.checked) (os := os) (X := fun w _ => laidMetH Tryd.prog Rows.configsEdgesRow.laid w) false (World.doorLaid Tryd.prog 29 os) #[.int .u8 0, .int .u8 0] 8 rfl (World.shaped_of_RefB (by kernel_rfl) (by kernel_rfl)) (by kernel_rfl) (by kernel_rfl) (by kernel_rfl) (configsEdges_door os _)) ?_
  intro W base args ds gs before hval0 hW _ _ hL _
  have hval : ∀ (j : Nat) t v, Tryd.f8.params[j]? = some t → args[j]? = some v → Value.okWide Tryd.prog W .any base t v := hval0
  have hW' := hW
  obtain ⟨p, q, hA0, hV, rfl, hfz, hnd⟩ := hW
  have hA : DataW.TrodAll enc Tryd.prog W 0 (fun _ => true) true Tryd.f8.params.toList args.toList ds p := hA0
  rw [Tryd.params8] at hA hval
  obtain ⟨v0, v1, d0, d1, p0, p1, rfl, rfl, rfl, h0, h1⟩ := trodAll_two hA
  obtain ⟨rfl, rfl⟩ := trodVars_none hV
  obtain ⟨which, rfl, whichb⟩ := open_u8 (hval 0 5 v0 rfl rfl)
  obtain ⟨nodes, rfl, nodesb⟩ := open_u8 (hval 1 5 v1 rfl rfl)
  have hS : Signs W := signs_of hL rfl (List.mem_cons_self)
  clear hA0 hval0
  refine (configsEdges_walk which nodes whichb nodesb W hS).mono fun e W' ⟨he, hb⟩ => ?_
  subst he
  exact ⟨_, rfl, post_true laidOut configsEdges_hts rfl Tryd.underlying4 rfl rfl rfl rfl hW' hb⟩

theorem configsEdges_named : Tryd.pinned.checked.prog.funcNamed Rows.configsEdgesRow.func = some 8 := by kernel_rfl
theorem configsEdges_closed : joinedFacts Tryd.pinned.checked.prog 8 Tryd.f8 Rows.configsEdgesSpec Rows.configsEdgesRow = true := by kernel_rfl
theorem configsEdges_inst : Tryd.f8.isInstance Tryd.pinned.checked.prog Rows.configsEdgesRow.origin Rows.configsEdgesRow.targs := of_decide_eq_true (by kernel_rfl)
theorem configsEdges_wrap : Tryd.f8.isWrapper Tryd.pinned.checked.prog Rows.configsEdgesRow.wrapper Rows.configsEdgesRow.mainSum := by unfold Func.isWrapper; first | (rw [if_pos (by decide +kernel)]; kernel_rfl) | (rw [if_neg (by decide +kernel)]; exact ⟨rfl, rfl⟩)
theorem configsEdges_row_holds : Rows.ConfigsEdgesSaid :=
  OpenClaim.holds_of_wide 8 Tryd.f8 rfl rfl rfl rfl rfl rfl rfl ⟨rfl, rfl, rfl, rfl, rfl⟩ rfl rfl rfl rfl rfl configsEdges_named Tryd.func8 configsEdges_closed
    configsEdges_inst configsEdges_wrap
    (fun os started H enc _ => configsEdges_lifted os started H enc)
theorem configsEdges_holds : Rows.ConfigsEdgesCardSaid :=
  Claim7.holds_tied_plain_at .later [] [.data] true Rows.configsEdgesCard.stood.harness false
    configsEdges_row_holds (fun _ h => by cases h) (by kernel_rfl) (fun _ h => by cases h) configsEdges_row_tie rfl ⟨rfl, rfl⟩ (by kernel_rfl) rfl
    (fun f fn hf hfn => by
      obtain rfl : f = 8 := Option.some.inj ((show Tryd.prog.funcNamed "sennit/sennitlaw04.ConfigsEdges" = some 8 by kernel_rfl).symm.trans hf) |>.symm
      obtain rfl : fn = Tryd.f8 := (Option.some.inj (Tryd.func8.symm.trans hfn)).symm
      exact ⟨by kernel_rfl, fun j t ht => by
        rw [Tryd.params8] at ht
        have hm : t ∈ [5, 5] := by simpa using Array.mem_of_getElem? ht
        have hall : ([5, 5].all fun u => !Tryd.prog.wantsStandIn u) = true := by kernel_rfl
        exact (show Tryd.prog.wantsStandIn t = false by simpa using List.all_eq_true.1 hall t hm)⟩)
    (by kernel_rfl)
#print axioms configsEdges_holds
end Go.Proofs.YtibncdkekceokaaDoor
