/- HostsVoid: whatever the act, the law answers true, and what came in reads as it did. Condition: the table rings.signs lies as the program's text lays it. -/
import Derived.Test.YtibncdkekceokaaDoorHostsVoid
import Derived.Test.YtibncdkekceokaaDoorOpenH
import Derived.Test.YtibncdkekceokaaDoorCoreC
import Derived.Test.YtibncdkekceokaaDoorCards
import Derived.Test.YtibncdkekceokaaDoorTie
import Derived.Stop.Joined
import Derived.SevenTiedAt
namespace Go.Proofs.YtibncdkekceokaaDoor
open Go.ChangeShapes Go.WideShapes Go.ChangeAt Go.WideMaps Go.WideElems Go.RowKit

theorem hostsVoid_hts : (Tryd.f18.params.toList.all fun t => Tryd.prog.readableRec t && decide (t < Tryd.prog.types.size)) = true := by kernel_rfl
set_option maxRecDepth 100000 in
theorem hostsVoid_door (os : Os) (args : Array Value) : laidMetH Tryd.prog Rows.hostsVoidRow.laid ((World.doorLaid Tryd.prog 29 os).forCall (fun _ _ => 0) ⟨#[], args, []⟩).memory :=
  laidMetH_of_parts3 (fuel := 8) (laidMet_of_run' 8 (by kernel_rfl) (by kernel_rfl)) (by kernel_rfl) (by kernel_rfl)
set_option maxRecDepth 100000 in
theorem hostsVoid_lifted (os : Os) (started : os.Started) (H : Type) (enc : TypeId × Value → H) :
    ReturnsInHanded {} Tryd.checked os 18 .any (fun w args => (Rows.hostsVoidSpec.pre enc Tryd.prog Tryd.f18 [] false w args ∧ laidMetH Tryd.prog Rows.hostsVoidRow.laid w) ∧ sizedMet enc Tryd.prog Tryd.f18 (OpenSpec.ofChange Rows.hostsVoidSpec) false w args)
      (Rows.hostsVoidSpec.post enc Tryd.prog Tryd.f18 false true false false) := by
  refine returnsInHanded_of_change_and (C := Tryd.checked) (X := fun w _ => laidMetH Tryd.prog Rows.hostsVoidRow.laid w) (fun _ _ _ hh h => h.of_heap hh) own started (by kernel_rfl) Tryd.func18
    (ChangeSpec.witness_shaped (enc := enc) (C := Tryd.checked) (os := os) (X := fun w _ => laidMetH Tryd.prog Rows.hostsVoidRow.laid w) false (World.doorLaid Tryd.prog 29 os) #[.agg #[.bool false, .int .i64 0, .int .u8 0, .int .u8 0, .int .u32 0, .int .u32 0, .int .i64 0]] 8 rfl (World.shaped_of_RefB (by kernel_rfl) (by kernel_rfl)) (by kernel_rfl) (by kernel_rfl) (by kernel_rfl) (hostsVoid_door os _)) ?_
  intro W base args ds gs before hval0 hW _ _ hL _
  have hval : ∀ (j : Nat) t v, Tryd.f18.params[j]? = some t → args[j]? = some v → Value.okWide Tryd.prog W .any base t v := hval0
  have hW' := hW
  obtain ⟨p, q, hA0, hV, rfl, hfz, hnd⟩ := hW
  have hA : DataW.TrodAll enc Tryd.prog W 0 (fun _ => true) true Tryd.f18.params.toList args.toList ds p := hA0
  rw [Tryd.params18] at hA hval
  obtain ⟨v0, d0, rfl, rfl, h0⟩ := trodAll_one hA
  obtain ⟨rfl, rfl⟩ := trodVars_none hV
  obtain ⟨xb, xp, xk, xs, xq, xv, xr, rfl, xh⟩ := open_act (hval 0 113 v0 rfl rfl)
  have hS : Signs W := signs_of hL rfl (List.mem_cons_self)
  clear hA0 hval0
  refine (hostsVoid_walk xb xp xk xs xq xv xr W hS).mono fun e W' ⟨he, hb⟩ => ?_
  subst he
  exact ⟨_, rfl, post_true laidOut hostsVoid_hts rfl Tryd.underlying4 rfl rfl rfl rfl hW' hb⟩

theorem hostsVoid_named : Tryd.pinned.checked.prog.funcNamed Rows.hostsVoidRow.func = some 18 := by kernel_rfl
theorem hostsVoid_closed : joinedFacts Tryd.pinned.checked.prog 18 Tryd.f18 Rows.hostsVoidSpec Rows.hostsVoidRow = true := by kernel_rfl
theorem hostsVoid_inst : Tryd.f18.isInstance Tryd.pinned.checked.prog Rows.hostsVoidRow.origin Rows.hostsVoidRow.targs := of_decide_eq_true (by kernel_rfl)
theorem hostsVoid_wrap : Tryd.f18.isWrapper Tryd.pinned.checked.prog Rows.hostsVoidRow.wrapper Rows.hostsVoidRow.mainSum := by unfold Func.isWrapper; first | (rw [if_pos (by decide +kernel)]; kernel_rfl) | (rw [if_neg (by decide +kernel)]; exact ⟨rfl, rfl⟩)
theorem hostsVoid_row_holds : Rows.HostsVoidSaid :=
  OpenClaim.holds_of_wide 18 Tryd.f18 rfl rfl rfl rfl rfl rfl rfl ⟨rfl, rfl, rfl, rfl, rfl⟩ rfl rfl rfl rfl rfl hostsVoid_named Tryd.func18 hostsVoid_closed
    hostsVoid_inst hostsVoid_wrap
    (fun os started H enc _ => hostsVoid_lifted os started H enc)
theorem hostsVoid_holds : Rows.HostsVoidCardSaid :=
  Claim7.holds_tied_plain_at .later [] [.data] true Rows.hostsVoidCard.stood.harness false
    hostsVoid_row_holds (fun _ h => by cases h) (by kernel_rfl) (fun _ h => by cases h) hostsVoid_row_tie rfl ⟨rfl, rfl⟩ (by kernel_rfl) rfl
    (fun f fn hf hfn => by
      obtain rfl : f = 18 := Option.some.inj ((show Tryd.prog.funcNamed "sennit/sennitlaw19.HostsVoid" = some 18 by kernel_rfl).symm.trans hf) |>.symm
      obtain rfl : fn = Tryd.f18 := (Option.some.inj (Tryd.func18.symm.trans hfn)).symm
      exact ⟨by kernel_rfl, fun j t ht => by
        rw [Tryd.params18] at ht
        have hm : t ∈ [113] := by simpa using Array.mem_of_getElem? ht
        have hall : ([113].all fun u => !Tryd.prog.wantsStandIn u) = true := by kernel_rfl
        exact (show Tryd.prog.wantsStandIn t = false by simpa using List.all_eq_true.1 hall t hm)⟩)
    (by kernel_rfl)
#print axioms hostsVoid_holds
end Go.Proofs.YtibncdkekceokaaDoor
