/- WindowsMeet: whatever the config, the owner, the node, the tick and the direction, the law answers true, and what came in reads as it did. Conditions: the tables rings.signs and windows.roles lie as the program's text lays them. -/
import Derived.Test.YtibncdkekceokaaDoorWindowsMeet
import Derived.Test.YtibncdkekceokaaDoorCoreC
import Derived.Test.YtibncdkekceokaaDoorOpenS
import Derived.Test.YtibncdkekceokaaDoorWindows
import Derived.Test.YtibncdkekceokaaDoorCards
import Derived.Test.YtibncdkekceokaaDoorTie
import Derived.Stop.Joined
import Derived.SevenTiedAt
namespace Go.Proofs.YtibncdkekceokaaDoor
open Go.ChangeShapes Go.WideShapes Go.ChangeAt Go.WideMaps Go.WideElems Go.RowKit

theorem windowsMeet_hts : (Tryd.f15.params.toList.all fun t => Tryd.prog.readableRec t && decide (t < Tryd.prog.types.size)) = true := by kernel_rfl
set_option maxRecDepth 100000 in
theorem windowsMeet_door (os : Os) (args : Array Value) : laidMetH Tryd.prog Rows.windowsMeetRow.laid ((World.doorLaid Tryd.prog 29 os).forCall (fun _ _ => 0) ⟨#[], args, []⟩).memory :=
  laidMetH_of_parts3 (fuel := 8) (laidMet_of_run' 8 (by kernel_rfl) (by kernel_rfl)) (by kernel_rfl) (by kernel_rfl)
set_option maxRecDepth 100000 in
theorem windowsMeet_lifted (os : Os) (started : os.Started) (H : Type) (enc : TypeId × Value → H) :
    ReturnsInHanded {} Tryd.checked os 15 .any (fun w args => (Rows.windowsMeetSpec.pre enc Tryd.prog Tryd.f15 [] false w args ∧ laidMetH Tryd.prog Rows.windowsMeetRow.laid w) ∧ sizedMet enc Tryd.prog Tryd.f15 (OpenSpec.ofChange Rows.windowsMeetSpec) false w args)
      (Rows.windowsMeetSpec.post enc Tryd.prog Tryd.f15 false true false false) := by
  refine returnsInHanded_of_change_and (C := Tryd.checked) (X := fun w _ => laidMetH Tryd.prog Rows.windowsMeetRow.laid w) (fun _ _ _ hh h => h.of_heap hh) own started (by kernel_rfl) Tryd.func15
    (ChangeSpec.witness_shaped (enc := enc) (C := Tryd.checked) (os := os) (X := fun w _ => laidMetH Tryd.prog Rows.windowsMeetRow.laid w) false (World.doorLaid Tryd.prog 29 os) #[.agg #[.int .i64 0, .slice none 0 0, .slice none 0 0, .int .i64 0, .slice none 0 0, .slice none 0 0, .int .i64 0, .int .i64 0, .int .i64 0], .agg #[.int .u8 0, .int .u8 0, .int .u8 0], .bool false] 8 rfl (World.shaped_of_RefB (by kernel_rfl) (by kernel_rfl)) (by kernel_rfl) (by kernel_rfl) (by kernel_rfl) (windowsMeet_door os _)) ?_
  intro W base args ds gs before hval0 hW _ _ hL _
  have hval : ∀ (j : Nat) t v, Tryd.f15.params[j]? = some t → args[j]? = some v → Value.okWide Tryd.prog W .any base t v := hval0
  have hW' := hW
  obtain ⟨p, q, hA0, hV, rfl, hfz, hnd⟩ := hW
  have hA : DataW.TrodAll enc Tryd.prog W 0 (fun _ => true) true Tryd.f15.params.toList args.toList ds p := hA0
  rw [Tryd.params15] at hA hval
  obtain ⟨v0, v1, v2, d0, d1, d2, p0, p1, p2, rfl, rfl, rfl, h0, h1, h2⟩ := trodAll_three hA
  obtain ⟨rfl, rfl⟩ := trodVars_none hV
  obtain ⟨nodes, long, miss, good, fresh, pa, sa, ba, ta, pn, pc, sn, sc, bn, bc, tn, tc, ps, ss, bs, ts, rfl, hC⟩ := open_cfg (hval 0 25 v0 rfl rfl) h0
  obtain ⟨x0, x1, x2, rfl, xb0, xb1, xb2⟩ := open_u8x3 (hval 1 65 v1 rfl rfl)
  obtain ⟨z, rfl⟩ := open_boolS (hval 2 4 v2 rfl rfl)
  have hS : Signs W := signs_of hL rfl (List.mem_cons_self)
  have hR : Roles W := roles_of hL rfl (List.mem_cons_of_mem _ (List.mem_cons_self))
  clear hA0 hval0
  refine (windowsMeet_walk nodes long miss good fresh pa sa ba ta pn pc sn sc bn bc tn tc ps ss bs ts x0 x1 x2 xb0 xb1 xb2 z W hS hR hC).mono fun e W' ⟨he, hb⟩ => ?_
  subst he
  exact ⟨_, rfl, post_true laidOut windowsMeet_hts rfl Tryd.underlying4 rfl rfl rfl rfl hW' hb⟩

theorem windowsMeet_named : Tryd.pinned.checked.prog.funcNamed Rows.windowsMeetRow.func = some 15 := by kernel_rfl
theorem windowsMeet_closed : joinedFacts Tryd.pinned.checked.prog 15 Tryd.f15 Rows.windowsMeetSpec Rows.windowsMeetRow = true := by kernel_rfl
theorem windowsMeet_inst : Tryd.f15.isInstance Tryd.pinned.checked.prog Rows.windowsMeetRow.origin Rows.windowsMeetRow.targs := of_decide_eq_true (by kernel_rfl)
theorem windowsMeet_wrap : Tryd.f15.isWrapper Tryd.pinned.checked.prog Rows.windowsMeetRow.wrapper Rows.windowsMeetRow.mainSum := by unfold Func.isWrapper; first | (rw [if_pos (by decide +kernel)]; kernel_rfl) | (rw [if_neg (by decide +kernel)]; exact ⟨rfl, rfl⟩)
theorem windowsMeet_row_holds : Rows.WindowsMeetSaid :=
  OpenClaim.holds_of_wide 15 Tryd.f15 rfl rfl rfl rfl rfl rfl rfl ⟨rfl, rfl, rfl, rfl, rfl⟩ rfl rfl rfl rfl rfl windowsMeet_named Tryd.func15 windowsMeet_closed
    windowsMeet_inst windowsMeet_wrap
    (fun os started H enc _ => windowsMeet_lifted os started H enc)
theorem windowsMeet_holds : Rows.WindowsMeetCardSaid :=
  Claim7.holds_tied_plain_at .later [] [.data, .data] true Rows.windowsMeetCard.stood.harness false
    windowsMeet_row_holds (fun _ h => by cases h) (by kernel_rfl) (fun _ h => by cases h) windowsMeet_row_tie rfl ⟨rfl, rfl⟩ (by kernel_rfl) rfl
    (fun f fn hf hfn => by
      obtain rfl : f = 15 := Option.some.inj ((show Tryd.prog.funcNamed "sennit/sennitlaw10.WindowsMeet" = some 15 by kernel_rfl).symm.trans hf) |>.symm
      obtain rfl : fn = Tryd.f15 := (Option.some.inj (Tryd.func15.symm.trans hfn)).symm
      exact ⟨by kernel_rfl, fun j t ht => by
        rw [Tryd.params15] at ht
        have hm : t ∈ [25, 65, 4] := by simpa using Array.mem_of_getElem? ht
        have hall : ([25, 65, 4].all fun u => !Tryd.prog.wantsStandIn u) = true := by kernel_rfl
        exact (show Tryd.prog.wantsStandIn t = false by simpa using List.all_eq_true.1 hall t hm)⟩)
    (by kernel_rfl)
#print axioms windowsMeet_holds
end Go.Proofs.YtibncdkekceokaaDoor
