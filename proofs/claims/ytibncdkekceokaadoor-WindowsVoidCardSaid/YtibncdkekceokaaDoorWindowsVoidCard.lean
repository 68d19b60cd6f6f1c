/- WindowsVoid: whatever the numbers, the law answers true, and what came in reads as it did. Conditions: the tables rings.signs and windows.roles lie as the program's text lays them. -/
import Derived.Test.YtibncdkekceokaaDoorWindowsVoid
import Derived.Test.YtibncdkekceokaaDoorOpenS
import Derived.Test.YtibncdkekceokaaDoorCoreC
import Derived.Test.YtibncdkekceokaaDoorWindows
import Derived.Test.YtibncdkekceokaaDoorCards
import Derived.Test.YtibncdkekceokaaDoorTie
import Derived.Stop.Joined
import Derived.SevenTiedAt
namespace Go.Proofs.YtibncdkekceokaaDoor
open Go.ChangeShapes Go.WideShapes Go.ChangeAt Go.WideMaps Go.WideElems Go.RowKit

theorem windowsVoid_hts : (Tryd.f13.params.toList.all fun t => Tryd.prog.readableRec t && decide (t < Tryd.prog.types.size)) = true := by kernel_rfl
set_option maxRecDepth 100000 in
theorem windowsVoid_door (os : Os) (args : Array Value) : laidMetH Tryd.prog Rows.windowsVoidRow.laid ((World.doorLaid Tryd.prog 29 os).forCall (fun _ _ => 0) ⟨#[], args, []⟩).memory :=
  laidMetH_of_parts3 (fuel := 8) (laidMet_of_run' 8 (by kernel_rfl) (by kernel_rfl)) (by kernel_rfl) (by kernel_rfl)
set_option maxRecDepth 100000 in
theorem windowsVoid_lifted (os : Os) (started : os.Started) (H : Type) (enc : TypeId × Value → H) :
    ReturnsInHanded {} Tryd.checked os 13 .any (fun w args => (Rows.windowsVoidSpec.pre enc Tryd.prog Tryd.f13 [] false w args ∧ laidMetH Tryd.prog Rows.windowsVoidRow.laid w) ∧ sizedMet enc Tryd.prog Tryd.f13 (OpenSpec.ofChange Rows.windowsVoidSpec) false w args)
      (Rows.windowsVoidSpec.post enc Tryd.prog Tryd.f13 false true false false) := by
  refine returnsInHanded_of_change_and (C := Tryd.checked) (X := fun w _ => laidMetH Tryd.prog Rows.windowsVoidRow.laid w) (fun _ _ _ hh h => h.of_heap hh) own started (by kernel_rfl) Tryd.func13
    (ChangeSpec.witness_shaped (enc := enc) (C := Tryd.checked) (os := os) (X := fun w _ => laidMetH Tryd.prog Rows.windowsVoidRow.laid w) false (World.doorLaid Tryd.prog 29 os) #[.agg #[.int .i64 0, .int .i64 0, .int .i64 0, .int .i64 0]] 8 rfl (World.shaped_of_RefB (by kernel_rfl) (by kernel_rfl)) (by kernel_rfl) (by kernel_rfl) (by kernel_rfl) (windowsVoid_door os _)) ?_
  intro W base args ds gs before hval0 hW _ _ hL _
  have hval : ∀ (j : Nat) t v, Tryd.f13.params[j]? = some t → args[j]? = some v → Value.okWide Tryd.prog W .any base t v := hval0
  have hW' := hW
  obtain ⟨p, q, hA0, hV, rfl, hfz, hnd⟩ := hW
  have hA : DataW.TrodAll enc Tryd.prog W 0 (fun _ => true) true Tryd.f13.params.toList args.toList ds p := hA0
  rw [Tryd.params13] at hA hval
  obtain ⟨v0, d0, rfl, rfl, h0⟩ := trodAll_one hA
  obtain ⟨rfl, rfl⟩ := trodVars_none hV
  obtain ⟨x0, x1, x2, x3, rfl, xb⟩ := open_intx4 (hval 0 74 v0 rfl rfl)
  have hS : Signs W := signs_of hL rfl (List.mem_cons_self)
  have hR : Roles W := roles_of hL rfl (List.mem_cons_of_mem _ (List.mem_cons_self))
  clear hA0 hval0
  refine (windowsVoid_walk x0 x1 x2 x3 W hS hR).mono fun e W' ⟨he, hb⟩ => ?_
  subst he
  exact ⟨_, rfl, post_true laidOut windowsVoid_hts rfl Tryd.underlying4 rfl rfl rfl rfl hW' hb⟩

theorem windowsVoid_named : Tryd.pinned.checked.prog.funcNamed Rows.windowsVoidRow.func = some 13 := by kernel_rfl
theorem windowsVoid_closed : joinedFacts Tryd.pinned.checked.prog 13 Tryd.f13 Rows.windowsVoidSpec Rows.windowsVoidRow = true := by kernel_rfl
theorem windowsVoid_inst : Tryd.f13.isInstance Tryd.pinned.checked.prog Rows.windowsVoidRow.origin Rows.windowsVoidRow.targs := of_decide_eq_true (by kernel_rfl)
theorem windowsVoid_wrap : Tryd.f13.isWrapper Tryd.pinned.checked.prog Rows.windowsVoidRow.wrapper Rows.windowsVoidRow.mainSum := by unfold Func.isWrapper; first | (rw [if_pos (by decide +kernel)]; kernel_rfl) | (rw [if_neg (by decide +kernel)]; exact ⟨rfl, rfl⟩)
theorem windowsVoid_row_holds : Rows.WindowsVoidSaid :=
  OpenClaim.holds_of_wide 13 Tryd.f13 rfl rfl rfl rfl rfl rfl rfl ⟨rfl, rfl, rfl, rfl, rfl⟩ rfl rfl rfl rfl rfl windowsVoid_named Tryd.func13 windowsVoid_closed
    windowsVoid_inst windowsVoid_wrap
    (fun os started H enc _ => windowsVoid_lifted os started H enc)
theorem windowsVoid_holds : Rows.WindowsVoidCardSaid :=
  Claim7.holds_tied_plain_at .later [] [.data, .data] true Rows.windowsVoidCard.stood.harness false
    windowsVoid_row_holds (fun _ h => by cases h) (by kernel_rfl) (fun _ h => by cases h) windowsVoid_row_tie rfl ⟨rfl, rfl⟩ (by kernel_rfl) rfl
    (fun f fn hf hfn => by
      obtain rfl : f = 13 := Option.some.inj ((show Tryd.prog.funcNamed "sennit/sennitlaw10.WindowsVoid" = some 13 by kernel_rfl).symm.trans hf) |>.symm
      obtain rfl : fn = Tryd.f13 := (Option.some.inj (Tryd.func13.symm.trans hfn)).symm
      exact ⟨by kernel_rfl, fun j t ht => by
        rw [Tryd.params13] at ht
        have hm : t ∈ [74] := by simpa using Array.mem_of_getElem? ht
        have hall : ([74].all fun u => !Tryd.prog.wantsStandIn u) = true := by kernel_rfl
        exact (show Tryd.prog.wantsStandIn t = false by simpa using List.all_eq_true.1 hall t hm)⟩)
    (by kernel_rfl)
#print axioms windowsVoid_holds
end Go.Proofs.YtibncdkekceokaaDoor
