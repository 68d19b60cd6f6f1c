/- ConfigsTurned: whatever the config, and however far it is turned, the law answers true, and what came in reads as it did. Condition: the table rings.signs lies as the program's text lays it. -/
import Derived.Test.YtibncdkekceokaaDoorConfigsTurned
import Derived.Test.YtibncdkekceokaaDoorCoreC
import Derived.Test.YtibncdkekceokaaDoorOpenS
import Derived.Test.YtibncdkekceokaaDoorCards
import Derived.Test.YtibncdkekceokaaDoorTie
import Derived.Stop.Joined
import Derived.SevenTiedAt
namespace Go.Proofs.YtibncdkekceokaaDoor
open Go.ChangeShapes Go.WideShapes Go.ChangeAt Go.WideMaps Go.WideElems Go.RowKit

theorem configsTurned_hts : (Tryd.f7.params.toList.all fun t => Tryd.prog.readableRec t && decide (t < Tryd.prog.types.size)) = true := by kernel_rfl
set_option maxRecDepth 100000 in
theorem configsTurned_door (os : Os) (args : Array Value) : laidMetH Tryd.prog Rows.configsTurnedRow.laid ((World.doorLaid Tryd.prog 29 os).forCall (fun _ _ => 0) ⟨#[], args, []⟩).memory :=
  laidMetH_of_parts3 (fuel := 8) (laidMet_of_run' 8 (by kernel_rfl) (by kernel_rfl)) (by kernel_rfl) (by kernel_rfl)
set_option maxRecDepth 100000 in
theorem configsTurned_lifted (os : Os) (started : os.Started) (H : Type) (enc : TypeId × Value → H) :
    ReturnsInHanded {} Tryd.checked os 7 .any (fun w args => (Rows.configsTurnedSpec.pre enc Tryd.prog Tryd.f7 [] false w args ∧ laidMetH Tryd.prog Rows.configsTurnedRow.laid w) ∧ sizedMet enc Tryd.prog Tryd.f7 (OpenSpec.ofChange Rows.configsTurnedSpec) false w args)
      (Rows.configsTurnedSpec.post enc Tryd.prog Tryd.f7 false true false false) := by
  refine returnsInHanded_of_change_and (C := Tryd.checked) (X := fun w _ => laidMetH Tryd.prog Rows.configsTurnedRow.laid w) (fun _ _ _ hh h => h.of_heap hh) own started (by kernel_rfl) Tryd.func7
    (ChangeSpec.witness_shaped (enc := enc) (C := Tryd.checked) (os := os) (X := fun w _ => laidMetH Tryd.prog Rows.configsTurnedRow.laid w) false (World.doorLaid Tryd.prog 29 os) #[.agg #[.int .i64 0, .slice none 0 0, .slice none 0 0, .int .i64 0, .slice none 0 0, .slice none 0 0, .int .i64 0, .int .i64 0, .int .i64 0], .int .u8 0] 8 rfl (World.shaped_of_RefB (by kernel_rfl) (by kernel_rfl)) (by kernel_rfl) (by kernel_rfl) (by kernel_rfl) (configsTurned_door os _)) ?_
  intro W base args ds gs before hval0 hW _ _ hL _
  have hval : ∀ (j : Nat) t v, Tryd.f7.params[j]? = some t → args[j]? = some v → Value.okWide Tryd.prog W .any base t v := hval0
  have hW' := hW
  obtain ⟨p, q, hA0, hV, rfl, hfz, hnd⟩ := hW
  have hA : DataW.TrodAll enc Tryd.prog W 0 (fun _ => true) true Tryd.f7.params.toList args.toList ds p := hA0
  rw [Tryd.params7] at hA hval
  obtain ⟨v0, v1, d0, d1, p0, p1, rfl, rfl, rfl, h0, h1⟩ := trodAll_two hA
  obtain ⟨rfl, rfl⟩ := trodVars_none hV
  obtain ⟨nodes, long, miss, good, fresh, pa, sa, ba, ta, pn, pc, sn, sc, bn, bc, tn, tc, ps, ss, bs, ts, rfl, hC⟩ := open_cfg (hval 0 25 v0 rfl rfl) h0
  obtain ⟨tu, rfl, tub⟩ := open_u8 (hval 1 5 v1 rfl rfl)
  have hS : Signs W := signs_of hL rfl (List.mem_cons_self)
  clear hA0 hval0
  refine (configsTurned_walk nodes long miss good fresh pa sa ba ta pn pc sn sc bn bc tn tc ps ss bs ts tu tub W hS hC).mono fun e W' ⟨he, hb⟩ => ?_
  subst he
  exact ⟨_, rfl, post_true laidOut configsTurned_hts rfl Tryd.underlying4 rfl rfl rfl rfl hW' hb⟩

theorem configsTurned_named : Tryd.pinned.checked.prog.funcNamed Rows.configsTurnedRow.func = some 7 := by kernel_rfl
theorem configsTurned_closed : joinedFacts Tryd.pinned.checked.prog 7 Tryd.f7 Rows.configsTurnedSpec Rows.configsTurnedRow = true := by kernel_rfl
theorem configsTurned_inst : Tryd.f7.isInstance Tryd.pinned.checked.prog Rows.configsTurnedRow.origin Rows.configsTurnedRow.targs := of_decide_eq_true (by kernel_rfl)
theorem configsTurned_wrap : Tryd.f7.isWrapper Tryd.pinned.checked.prog Rows.configsTurnedRow.wrapper Rows.configsTurnedRow.mainSum := by unfold Func.isWrapper; first | (rw [if_pos (by decide +kernel)]; kernel_rfl) | (rw [if_neg (by decide +kernel)]; exact ⟨rfl, rfl⟩)
theorem configsTurned_row_holds : Rows.ConfigsTurnedSaid :=
  OpenClaim.holds_of_wide 7 Tryd.f7 rfl rfl rfl rfl rfl rfl rfl ⟨rfl, rfl, rfl, rfl, rfl⟩ rfl rfl rfl rfl rfl configsTurned_named Tryd.func7 configsTurned_closed
    configsTurned_inst configsTurned_wrap
    (fun os started H enc _ => configsTurned_lifted os started H enc)
theorem configsTurned_holds : Rows.ConfigsTurnedCardSaid :=
  Claim7.holds_tied_plain_at .later [] [.data] true Rows.configsTurnedCard.stood.harness false
    configsTurned_row_holds (fun _ h => by cases h) (by kernel_rfl) (fun _ h => by cases h) configsTurned_row_tie rfl ⟨rfl, rfl⟩ (by kernel_rfl) rfl
    (fun f fn hf hfn => by
      obtain rfl : f = 7 := Option.some.inj ((show Tryd.prog.funcNamed "sennit/sennitlaw04.ConfigsTurned" = some 7 by kernel_rfl).symm.trans hf) |>.symm
      obtain rfl : fn = Tryd.f7 := (Option.some.inj (Tryd.func7.symm.trans hfn)).symm
      exact ⟨by kernel_rfl, fun j t ht => by
        rw [Tryd.params7] at ht
        have hm : t ∈ [25, 5] := by simpa using Array.mem_of_getElem? ht
        have hall : ([25, 5].all fun u => !Tryd.prog.wantsStandIn u) = true := by kernel_rfl
        exact (show Tryd.prog.wantsStandIn t = false by simpa using List.all_eq_true.1 hall t hm)⟩)
    (by kernel_rfl)
#print axioms configsTurned_holds
end Go.Proofs.YtibncdkekceokaaDoor
