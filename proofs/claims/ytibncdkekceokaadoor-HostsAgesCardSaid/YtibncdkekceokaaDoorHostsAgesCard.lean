/- HostsAges: however long things are fresh, whatever the payload and the round, the law answers true, and what came in reads as it did. Condition: the table rings.signs lies as the program's text lays it. -/
import Derived.Test.YtibncdkekceokaaDoorHostsAges
import Derived.Test.YtibncdkekceokaaDoorOpenS
import Derived.Test.YtibncdkekceokaaDoorOpenH
import Derived.Test.YtibncdkekceokaaDoorCoreC
import Derived.Test.YtibncdkekceokaaDoorCards
import Derived.Test.YtibncdkekceokaaDoorTie
import Derived.Stop.Joined
import Derived.SevenTiedAt
namespace Go.Proofs.YtibncdkekceokaaDoor
open Go.ChangeShapes Go.WideShapes Go.ChangeAt Go.WideMaps Go.WideElems Go.RowKit

theorem hostsAges_hts : (Tryd.f20.params.toList.all fun t => Tryd.prog.readableRec t && decide (t < Tryd.prog.types.size)) = true := by kernel_rfl
set_option maxRecDepth 100000 in
theorem hostsAges_door (os : Os) (args : Array Value) : laidMetH Tryd.prog Rows.hostsAgesRow.laid ((World.doorLaid Tryd.prog 29 os).forCall (fun _ _ => 0) ⟨#[], args, []⟩).memory :=
  laidMetH_of_parts3 (fuel := 8) (laidMet_of_run' 8 (by kernel_rfl) (by kernel_rfl)) (by kernel_rfl) (by kernel_rfl)
set_option maxRecDepth 100000 in
theorem hostsAges_lifted (os : Os) (started : os.Started) (H : Type) (enc : TypeId × Value → H) :
    ReturnsInHanded {} Tryd.checked os 20 .any (fun w args => (Rows.hostsAgesSpec.pre enc Tryd.prog Tryd.f20 [] false w args ∧ laidMetH Tryd.prog Rows.hostsAgesRow.laid w) ∧ sizedMet enc Tryd.prog Tryd.f20 (OpenSpec.ofChange Rows.hostsAgesSpec) false w args)
      (Rows.hostsAgesSpec.post enc Tryd.prog Tryd.f20 false true false false) := by
  refine returnsInHanded_of_change_and (C := Tryd.checked) (X := fun w _ => laidMetH Tryd.prog Rows.hostsAgesRow.laid w) (fun _ _ _ hh h => h.of_heap hh) own started (by kernel_rfl) Tryd.func20
    (ChangeSpec.witness_shaped (enc := enc) (C := Tryd.checked) (os := os) (X := fun w _ => laidMetH Tryd.prog Rows.hostsAgesRow.laid w) false (World.doorLaid Tryd.prog 29 os) #[.int .u8 0, .agg #[.int .u8 0, .int .u8 0, .int .u32 0, .int .u32 0], .int .u32 0] 8 rfl (World.shaped_of_RefB (by kernel_rfl) (by kernel_rfl)) (by kernel_rfl) (by kernel_rfl) (by kernel_rfl) (hostsAges_door os _)) ?_
  intro W base args ds gs before hval0 hW _ _ hL _
  have hval : ∀ (j : Nat) t v, Tryd.f20.params[j]? = some t → args[j]? = some v → Value.okWide Tryd.prog W .any base t v := hval0
  have hW' := hW
  obtain ⟨p, q, hA0, hV, rfl, hfz, hnd⟩ := hW
  have hA : DataW.TrodAll enc Tryd.prog W 0 (fun _ => true) true Tryd.f20.params.toList args.toList ds p := hA0
  rw [Tryd.params20] at hA hval
  obtain ⟨v0, v1, v2, d0, d1, d2, p0, p1, p2, rfl, rfl, rfl, h0, h1, h2⟩ := trodAll_three hA
  obtain ⟨rfl, rfl⟩ := trodVars_none hV
  obtain ⟨fr, rfl, frb⟩ := open_u8 (hval 0 5 v0 rfl rfl)
  obtain ⟨pk, ps, pq, pv, rfl, pb⟩ := open_pay (hval 1 96 v1 rfl rfl)
  obtain ⟨ro, rfl, rob⟩ := open_u32 (hval 2 51 v2 rfl rfl)
  have hS : Signs W := signs_of hL rfl (List.mem_cons_self)
  clear hA0 hval0
  refine (hostsAges_walk fr frb pk ps pq pv ro rob W hS).mono fun e W' ⟨he, hb⟩ => ?_
  subst he
  exact ⟨_, rfl, post_true laidOut hostsAges_hts rfl Tryd.underlying4 rfl rfl rfl rfl hW' hb⟩

theorem hostsAges_named : Tryd.pinned.checked.prog.funcNamed Rows.hostsAgesRow.func = some 20 := by kernel_rfl
theorem hostsAges_closed : joinedFacts Tryd.pinned.checked.prog 20 Tryd.f20 Rows.hostsAgesSpec Rows.hostsAgesRow = true := by kernel_rfl
theorem hostsAges_inst : Tryd.f20.isInstance Tryd.pinned.checked.prog Rows.hostsAgesRow.origin Rows.hostsAgesRow.targs := of_decide_eq_true (by kernel_rfl)
theorem hostsAges_wrap : Tryd.f20.isWrapper Tryd.pinned.checked.prog Rows.hostsAgesRow.wrapper Rows.hostsAgesRow.mainSum := by unfold Func.isWrapper; first | (rw [if_pos (by decide +kernel)]; kernel_rfl) | (rw [if_neg (by decide +kernel)]; exact ⟨rfl, rfl⟩)
theorem hostsAges_row_holds : Rows.HostsAgesSaid :=
  OpenClaim.holds_of_wide 20 Tryd.f20 rfl rfl rfl rfl rfl rfl rfl ⟨rfl, rfl, rfl, rfl, rfl⟩ rfl rfl rfl rfl rfl hostsAges_named Tryd.func20 hostsAges_closed
    hostsAges_inst hostsAges_wrap
    (fun os started H enc _ => hostsAges_lifted os started H enc)
theorem hostsAges_holds : Rows.HostsAgesCardSaid :=
  Claim7.holds_tied_plain_at .later [] [.data] true Rows.hostsAgesCard.stood.harness false
    hostsAges_row_holds (fun _ h => by cases h) (by kernel_rfl) (fun _ h => by cases h) hostsAges_row_tie rfl ⟨rfl, rfl⟩ (by kernel_rfl) rfl
    (fun f fn hf hfn => by
      obtain rfl : f = 20 := Option.some.inj ((show Tryd.prog.funcNamed "sennit/sennitlaw19.HostsAges" = some 20 by kernel_rfl).symm.trans hf) |>.symm
      obtain rfl : fn = Tryd.f20 := (Option.some.inj (Tryd.func20.symm.trans hfn)).symm
      exact ⟨by kernel_rfl, fun j t ht => by
        rw [Tryd.params20] at ht
        have hm : t ∈ [5, 96, 51] := by simpa using Array.mem_of_getElem? ht
        have hall : ([5, 96, 51].all fun u => !Tryd.prog.wantsStandIn u) = true := by kernel_rfl
        exact (show Tryd.prog.wantsStandIn t = false by simpa using List.all_eq_true.1 hall t hm)⟩)
    (by kernel_rfl)
#print axioms hostsAges_holds
end Go.Proofs.YtibncdkekceokaaDoor
