/- WindowsOf: whatever the config, the four numbers and the symbol, the law answers true, and what came in reads as it did. Conditions: the tables rings.signs and windows.roles lie as the program's text lays them. -/
import Derived.Test.YtibncdkekceokaaDoorWindowsOf
import Derived.Test.YtibncdkekceokaaDoorCoreC
import Derived.Test.YtibncdkekceokaaDoorOpenS
import Derived.Test.YtibncdkekceokaaDoorWindows
import Derived.Test.YtibncdkekceokaaDoorCards
import Derived.Test.YtibncdkekceokaaDoorTie
import Derived.Stop.Joined
import Derived.SevenTiedAt
namespace Go.Proofs.YtibncdkekceokaaDoor
open Go.ChangeShapes Go.WideShapes Go.ChangeAt Go.WideMaps Go.WideElems Go.RowKit

theorem windowsOf_hts : (Tryd.f12.params.toList.all fun t => Tryd.prog.readableRec t && decide (t < Tryd.prog.types.size)) = true := by kernel_rfl
set_option maxRecDepth 100000 in
theorem windowsOf_door (os : Os) (args : Array Value) : laidMetH Tryd.prog Rows.windowsOfRow.laid ((World.doorLaid Tryd.prog 29 os).forCall (fun _ _ => 0) ⟨#[], args, []⟩).memory :=
  laidMetH_of_parts3 (fuel := 8) (laidMet_of_run' 8 (by kernel_rfl) (by kernel_rfl)) (by kernel_rfl) (by kernel_rfl)
set_option maxRecDepth 100000 in
theorem windowsOf_lifted (os : Os) (started : os.Started) (H : Type) (enc : TypeId × Value → H) :
    ReturnsInHanded {} Tryd.checked os 12 .any (fun w args => (Rows.windowsOfSpec.pre enc Tryd.prog Tryd.f12 [] false w args ∧ laidMetH Tryd.prog Rows.windowsOfRow.laid w) ∧ sizedMet enc Tryd.prog Tryd.f12 (OpenSpec.ofChange Rows.windowsOfSpec) false w args)
      (Rows.windowsOfSpec.post enc Tryd.prog Tryd.f12 false true false false) := by
  refine returnsInHanded_of_change_and (C := Tryd.checked) (X := fun w _ => laidMetH Tryd.prog Rows.windowsOfRow.laid w) (fun _ _ _ hh h => h.of_heap hh) own started (by kernel_rfl) Tryd.func12
    (ChangeSpec.witness_shaped (enc := enc) (C := Tryd.checked) (os := os) (X := fun w _ => laidMetH Tryd.prog Rows.windowsOfRow.laid w) false (World.doorLaid Tryd.prog 29 os) #[.agg #[.int .i64 0, .slice none 0 0, .slice none 0 0, .int .i64 0, .slice none 0 0, .slice none 0 0, .int .i64 0, .int .i64 0, .int .i64 0], .agg #[.int .i64 0, .int .i64 0, .int .i64 0, .int .i64 0], .int .u8 0] 8 rfl (World.shaped_of_RefB (by kernel_rfl) (by kernel_rfl)) (by kernel_rfl) (by kernel_rfl) (by kernel_rfl) (windowsOf_door os _)) ?_
  intro W base args ds gs before hval0 hW _ _ hL _
  have hval : ∀ (j : Nat) t v, Tryd.f12.params[j]? = some t → args[j]? = some v → Value.okWide Tryd.prog W .any base t v := hval0
  have hW' := hW
  obtain ⟨p, q, hA0, hV, rfl, hfz, hnd⟩ := hW
  have hA : DataW.TrodAll enc Tryd.prog W 0 (fun _ => true) true Tryd.f12.params.toList args.toList ds p := hA0
  rw [Tryd.params12] at hA hval
  obtain ⟨v0, v1, v2, d0, d1, d2, p0, p1, p2, rfl, rfl, rfl, h0, h1, h2⟩ := trodAll_three hA
  obtain ⟨rfl, rfl⟩ := trodVars_none hV
  obtain ⟨nodes, long, miss, good, fresh, pa, sa, ba, ta, pn, pc, sn, sc, bn, bc, tn, tc, ps, ss, bs, ts, rfl, hC⟩ := open_cfg (hval 0 25 v0 rfl rfl) h0
  obtain ⟨x0, x1, x2, x3, rfl, xb⟩ := open_intx4 (hval 1 74 v1 rfl rfl)
  obtain ⟨s, rfl, sb⟩ := open_u8 (hval 2 5 v2 rfl rfl)
  have hS : Signs W := signs_of hL rfl (List.mem_cons_self)
  have hR : Roles W := roles_of hL rfl (List.mem_cons_of_mem _ (List.mem_cons_self))
  clear hA0 hval0
  refine (windowsOf_walk nodes long miss good fresh pa sa ba ta pn pc sn sc bn bc tn tc ps ss bs ts x0 x1 x2 x3 s xb sb W hS hR hC).mono fun e W' ⟨he, hb⟩ => ?_
  subst he
  exact ⟨_, rfl, post_true laidOut windowsOf_hts rfl Tryd.underlying4 rfl rfl rfl rfl hW' hb⟩

theorem windowsOf_named : Tryd.pinned.checked.prog.funcNamed Rows.windowsOfRow.func = some 12 := by kernel_rfl
theorem windowsOf_closed : joinedFacts Tryd.pinned.checked.prog 12 Tryd.f12 Rows.windowsOfSpec Rows.windowsOfRow = true := by kernel_rfl
theorem windowsOf_inst : Tryd.f12.isInstance Tryd.pinned.checked.prog Rows.windowsOfRow.origin Rows.windowsOfRow.targs := of_decide_eq_true (by kernel_rfl)
theorem windowsOf_wrap : Tryd.f12.isWrapper Tryd.pinned.checked.prog Rows.windowsOfRow.wrapper Rows.windowsOfRow.mainSum := by unfold Func.isWrapper; first | (rw [if_pos (by decide +kernel)]; kernel_rfl) | (rw [if_neg (by decide +kernel)]; exact ⟨rfl, rfl⟩)
theorem windowsOf_row_holds : Rows.WindowsOfSaid :=
  OpenClaim.holds_of_wide 12 Tryd.f12 rfl rfl rfl rfl rfl rfl rfl ⟨rfl, rfl, rfl, rfl, rfl⟩ rfl rfl rfl rfl rfl windowsOf_named Tryd.func12 windowsOf_closed
    windowsOf_inst windowsOf_wrap
    (fun os started H enc _ => windowsOf_lifted os started H enc)
theorem windowsOf_holds : Rows.WindowsOfCardSaid :=
  Claim7.holds_tied_plain_at .later [] [.data, .data] true Rows.windowsOfCard.stood.harness false
    windowsOf_row_holds (fun _ h => by cases h) (by kernel_rfl) (fun _ h => by cases h) windowsOf_row_tie rfl ⟨rfl, rfl⟩ (by kernel_rfl) rfl
    (fun f fn hf hfn => by
      obtain rfl : f = 12 := Option.some.inj ((show Tryd.prog.funcNamed "sennit/sennitlaw10.WindowsOf" = some 12 by kernel_rfl).symm.trans hf) |>.symm
      obtain rfl : fn = Tryd.f12 := (Option.some.inj (Tryd.func12.symm.trans hfn)).symm
      exact ⟨by kernel_rfl, fun j t ht => by
        rw [Tryd.params12] at ht
        have hm : t ∈ [25, 74, 5] := by simpa using Array.mem_of_getElem? ht
        have hall : ([25, 74, 5].all fun u => !Tryd.prog.wantsStandIn u) = true := by kernel_rfl
        exact (show Tryd.prog.wantsStandIn t = false by simpa using List.all_eq_true.1 hall t hm)⟩)
    (by kernel_rfl)
#print axioms windowsOf_holds
end Go.Proofs.YtibncdkekceokaaDoor
