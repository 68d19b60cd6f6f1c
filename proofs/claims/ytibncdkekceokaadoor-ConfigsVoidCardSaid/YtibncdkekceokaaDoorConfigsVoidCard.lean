/- ConfigsVoid: whatever the numbers, the law answers true, and what came in reads as it did. Condition: the table rings.signs lies as the program's text lays it. -/
import Derived.Test.YtibncdkekceokaaDoorConfigsVoid
import Derived.Test.YtibncdkekceokaaDoorOpenS
import Derived.Test.YtibncdkekceokaaDoorCoreC
import Derived.Test.YtibncdkekceokaaDoorCards
import Derived.Test.YtibncdkekceokaaDoorTie
import Derived.Stop.Joined
import Derived.SevenTiedAt
namespace Go.Proofs.YtibncdkekceokaaDoor
open Go.ChangeShapes Go.WideShapes Go.ChangeAt Go.WideMaps Go.WideElems Go.RowKit

theorem configsVoid_hts : (Tryd.f9.params.toList.all fun t => Tryd.prog.readableRec t && decide (t < Tryd.prog.types.size)) = true := by kernel_rfl
set_option maxRecDepth 100000 in
theorem configsVoid_door (os : Os) (args : Array Value) : laidMetH Tryd.prog Rows.configsVoidRow.laid ((World.doorLaid Tryd.prog 29 os).forCall (fun _ _ => 0) ⟨#[], args, []⟩).memory :=
  laidMetH_of_parts3 (fuel := 8) (laidMet_of_run' 8 (by kernel_rfl) (by kernel_rfl)) (by kernel_rfl) (by kernel_rfl)
set_option maxRecDepth 100000 in
theorem configsVoid_lifted (os : Os) (started : os.Started) (H : Type) (enc : TypeId × Value → H) :
    ReturnsInHanded {} Tryd.checked os 9 .any (fun w args => (Rows.configsVoidSpec.pre enc Tryd.prog Tryd.f9 [] false w args ∧ laidMetH Tryd.prog Rows.configsVoidRow.laid w) ∧ sizedMet enc Tryd.prog Tryd.f9 (OpenSpec.ofChange Rows.configsVoidSpec) false w args)
      (Rows.configsVoidSpec.post enc Tryd.prog Tryd.f9 false true false false) := by
  refine returnsInHanded_of_change_and (C := Tryd.checked) (X := fun w _ => laidMetH Tryd.prog Rows.configsVoidRow.laid w) (fun _ _ _ hh h => h.of_heap hh) own started (by kernel_rfl) Tryd.func9
    (ChangeSpec.witness_shaped (enc := enc) (C := Tryd.checked) (os := os) (X := fun w _ => laidMetH Tryd.prog Rows.configsVoidRow.laid w) false (World.doorLaid Tryd.prog 29 os) #[.agg #[.int .i64 0, .int .i64 0], .int .i64 0] 8 rfl (World.shaped_of_RefB (by kernel_rfl) (by kernel_rfl)) (by kernel_rfl) (by kernel_rfl) (by kernel_rfl) (configsVoid_door os _)) ?_
  intro W base args ds gs before hval0 hW _ _ hL _
  have hval : ∀ (j : Nat) t v, Tryd.f9.params[j]? = some t → args[j]? = some v → Value.okWide Tryd.prog W .any base t v := hval0
  have hW' := hW
  obtain ⟨p, q, hA0, hV, rfl, hfz, hnd⟩ := hW
  have hA : DataW.TrodAll enc Tryd.prog W 0 (fun _ => true) true Tryd.f9.params.toList args.toList ds p := hA0
  rw [Tryd.params9] at hA hval
  obtain ⟨v0, v1, d0, d1, p0, p1, rfl, rfl, rfl, h0, h1⟩ := trodAll_two hA
  obtain ⟨rfl, rfl⟩ := trodVars_none hV
  obtain ⟨x0, x1, rfl, xb0, xb1⟩ := open_intx2 (hval 0 54 v0 rfl rfl)
  obtain ⟨slot, rfl, slotb⟩ := open_i64 (hval 1 2 v1 rfl rfl)
  have hS : Signs W := signs_of hL rfl (List.mem_cons_self)
  clear hA0 hval0
  refine (configsVoid_walk x0 x1 slot W hS).mono fun e W' ⟨he, hb⟩ => ?_
  subst he
  exact ⟨_, rfl, post_true laidOut configsVoid_hts rfl Tryd.underlying4 rfl rfl rfl rfl hW' hb⟩

theorem configsVoid_named : Tryd.pinned.checked.prog.funcNamed Rows.configsVoidRow.func = some 9 := by kernel_rfl
theorem configsVoid_closed : joinedFacts Tryd.pinned.checked.prog 9 Tryd.f9 Rows.configsVoidSpec Rows.configsVoidRow = true := by kernel_rfl
theorem configsVoid_inst : Tryd.f9.isInstance Tryd.pinned.checked.prog Rows.configsVoidRow.origin Rows.configsVoidRow.targs := of_decide_eq_true (by kernel_rfl)
theorem configsVoid_wrap : Tryd.f9.isWrapper Tryd.pinned.checked.prog Rows.configsVoidRow.wrapper Rows.configsVoidRow.mainSum := by unfold Func.isWrapper; first | (rw [if_pos (by decide +kernel)]; kernel_rfl) | (rw [if_neg (by decide +kernel)]; exact ⟨rfl, rfl⟩)
theorem configsVoid_row_holds : Rows.ConfigsVoidSaid :=
  OpenClaim.holds_of_wide 9 Tryd.f9 rfl rfl rfl rfl rfl rfl rfl ⟨rfl, rfl, rfl, rfl, rfl⟩ rfl rfl rfl rfl rfl configsVoid_named Tryd.func9 configsVoid_closed
    configsVoid_inst configsVoid_wrap
    (fun os started H enc _ => configsVoid_lifted os started H enc)
theorem configsVoid_holds : Rows.ConfigsVoidCardSaid :=
  Claim7.holds_tied_plain_at .later [] [.data] true Rows.configsVoidCard.stood.harness false
    configsVoid_row_holds (fun _ h => by cases h) (by kernel_rfl) (fun _ h => by cases h) configsVoid_row_tie rfl ⟨rfl, rfl⟩ (by kernel_rfl) rfl
    (fun f fn hf hfn => by
      obtain rfl : f = 9 := Option.some.inj ((show Tryd.prog.funcNamed "sennit/sennitlaw04.ConfigsVoid" = some 9 by kernel_rfl).symm.trans hf) |>.symm
      obtain rfl : fn = Tryd.f9 := (Option.some.inj (Tryd.func9.symm.trans hfn)).symm
      exact ⟨by kernel_rfl, fun j t ht => by
        rw [Tryd.params9] at ht
        have hm : t ∈ [54, 2] := by simpa using Array.mem_of_getElem? ht
        have hall : ([54, 2].all fun u => !Tryd.prog.wantsStandIn u) = true := by kernel_rfl
        exact (show Tryd.prog.wantsStandIn t = false by simpa using List.all_eq_true.1 hall t hm)⟩)
    (by kernel_rfl)
#print axioms configsVoid_holds
end Go.Proofs.YtibncdkekceokaaDoor
