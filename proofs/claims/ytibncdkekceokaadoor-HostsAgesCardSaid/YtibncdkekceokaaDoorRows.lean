/-
  NARROWER THAN 'FOR EVERY INPUT', by the rows' own cells (each row's printed sentence says how): ModesAny: laid · ModesTotal: laid · ModesWorse: laid · ConfigsNew: laid · ConfigsTurned: laid · ConfigsEdges: laid · ConfigsVoid: laid · ConfigsHalves: laid · WindowsOver: laid · WindowsOf: laid · WindowsVoid: laid · WindowsGuards: laid · WindowsMeet: laid · HostsOffer: laid · HostsBox: laid · HostsVoid: laid · HostsLast: laid · HostsAges: laid.
  DERIVED. THE GIVEN ROWS OF THIS SEAT. 18 by the template 'for every input the law returns true; each argument reads behind the call as it read before'; 0 by the template 'total and deterministic' (their statements: YtibncdkekceokaaDoorTotals.lean).
  GIVEN WITH THE SEED: the statements are not yours to turn. If you find one false, say at which input.
  Laid BY PROGRAM, IN A SANDBOX (cutbox-rows.mjs): the forced cells as the released guide's own fill.sh prints them over the translation 0ded2e325431a87c… (all of the seat's roots in one cut). By AI agents, Wed Nov 11 2026. No macro, syntax, notation, axiom, sorry.
-/
import Derived.Test.YtibncdkekceokaaDoorChecked
import GoSem.Claim
import GoSem.ClaimJoined
import GoSem.ClaimMapViews
import Derived.JoinedTies
import Derived.KernelRfl
namespace Go.Proofs.YtibncdkekceokaaDoor
/- THE CELL 'sum', in the pinned program and in every row, IS THE sha256 OF THE DUMP (.gsa) THAT YtibncdkekceokaaDoorProg.lean LOADS. Nothing in Lean hashes anything: it is a label: what it is worth is what the hold of that sum in a sandbox is worth. -/
noncomputable def Tryd.pinned : Pinned := { name := "ytibncdkekceokaadoor", sum := "0ded2e325431a87c102077328f896f94125f5b45743f8c27b74a147c425acbfa", checked := Tryd.checked }
namespace Rows
def none {H : Type} : Left H := { results := [], args := [] }

/- WHAT THE LISTED PACKAGE-LEVEL VARIABLES READ AS WHEN THE CALL BEGINS. Each datum BY PROGRAM (the guide's laid-datum.mjs) off the statement by which the dump's own 'gosem.cut.vars' lays the variable. In a bare row this is a premise. The card (YtibncdkekceokaaDoorCards.lean) ties it to the program's text. -/
def laid_sennit_rings_signs {H : Type} : DataW H := .agg [.lit (.int .i64 1), .lit (.int .i64 (-1))]
def laid_sennit_modes_edges {H : Type} : DataW H := .agg [.agg [.lit (.bool true), .lit (.bool true), .lit (.bool true), .lit (.bool true), .lit (.bool true)], .agg [.lit (.bool false), .lit (.bool true), .lit (.bool true), .lit (.bool true), .lit (.bool true)], .agg [.lit (.bool false), .lit (.bool true), .lit (.bool true), .lit (.bool true), .lit (.bool true)], .agg [.lit (.bool false), .lit (.bool false), .lit (.bool true), .lit (.bool true), .lit (.bool true)], .agg [.lit (.bool false), .lit (.bool false), .lit (.bool false), .lit (.bool true), .lit (.bool true)]]
def laid_sennit_windows_roles {H : Type} : DataW H := .agg [.lit (.int .u8 1), .lit (.int .u8 1), .lit (.int .u8 2)]

/-- 'sennitlaw25.ModesAny': WHATEVER THE INPUT: true; the input reads as it did. -/
def modesAnySpec : ChangeSpec := { name := "modesAny", fn := fun _ => fun
  | [d1, d2, d3] => { results := [.lit (.bool true)], args := [d1, d2, d3] }
  | _ => none }
def modesAnyRow : OpenClaim := { program := "ytibncdkekceokaadoor", sum := "0ded2e325431a87c102077328f896f94125f5b45743f8c27b74a147c425acbfa", func := "sennit/sennitlaw25.ModesAny", spec := "modesAny", unfollowed := true, recurses := true, named := ["sennit/rings.signs", "sennit/modes.edges"], apart := false, laid := [("sennit/rings.signs", laid_sennit_rings_signs), ("sennit/modes.edges", laid_sennit_modes_edges)] }
def ModesAnySaid : Prop := modesAnyRow.holds Tryd.pinned (OpenSpec.ofChange modesAnySpec)

/-- ITS FALSE NEIGHBOUR: 'it returns false'. Refute it at one input. -/
def modesAnyWrong : ChangeSpec := { name := "modesAny", fn := fun _ => fun
  | [d1, d2, d3] => { results := [.lit (.bool false)], args := [d1, d2, d3] }
  | _ => none }
def ModesAnyWrongFalsely : Prop := modesAnyRow.holds Tryd.pinned (OpenSpec.ofChange modesAnyWrong)

/-- 'sennitlaw25.ModesTotal': WHATEVER THE INPUT: true; the input reads as it did. -/
def modesTotalSpec : ChangeSpec := { name := "modesTotal", fn := fun _ => fun
  | [d1, d2] => { results := [.lit (.bool true)], args := [d1, d2] }
  | _ => none }
def modesTotalRow : OpenClaim := { program := "ytibncdkekceokaadoor", sum := "0ded2e325431a87c102077328f896f94125f5b45743f8c27b74a147c425acbfa", func := "sennit/sennitlaw25.ModesTotal", spec := "modesTotal", unfollowed := true, recurses := true, named := ["sennit/rings.signs", "sennit/modes.edges"], apart := false, laid := [("sennit/rings.signs", laid_sennit_rings_signs), ("sennit/modes.edges", laid_sennit_modes_edges)] }
def ModesTotalSaid : Prop := modesTotalRow.holds Tryd.pinned (OpenSpec.ofChange modesTotalSpec)

/-- ITS FALSE NEIGHBOUR: 'it returns false'. Refute it at one input. -/
def modesTotalWrong : ChangeSpec := { name := "modesTotal", fn := fun _ => fun
  | [d1, d2] => { results := [.lit (.bool false)], args := [d1, d2] }
  | _ => none }
def ModesTotalWrongFalsely : Prop := modesTotalRow.holds Tryd.pinned (OpenSpec.ofChange modesTotalWrong)

/-- 'sennitlaw25.ModesWorse': WHATEVER THE INPUT: true; the input reads as it did. -/
def modesWorseSpec : ChangeSpec := { name := "modesWorse", fn := fun _ => fun
  | [d1, d2, d3] => { results := [.lit (.bool true)], args := [d1, d2, d3] }
  | _ => none }
def modesWorseRow : OpenClaim := { program := "ytibncdkekceokaadoor", sum := "0ded2e325431a87c102077328f896f94125f5b45743f8c27b74a147c425acbfa", func := "sennit/sennitlaw25.ModesWorse", spec := "modesWorse", unfollowed := true, recurses := true, named := ["sennit/rings.signs", "sennit/modes.edges"], apart := false, laid := [("sennit/rings.signs", laid_sennit_rings_signs), ("sennit/modes.edges", laid_sennit_modes_edges)] }
def ModesWorseSaid : Prop := modesWorseRow.holds Tryd.pinned (OpenSpec.ofChange modesWorseSpec)

/-- ITS FALSE NEIGHBOUR: 'it returns false'. Refute it at one input. -/
def modesWorseWrong : ChangeSpec := { name := "modesWorse", fn := fun _ => fun
  | [d1, d2, d3] => { results := [.lit (.bool false)], args := [d1, d2, d3] }
  | _ => none }
def ModesWorseWrongFalsely : Prop := modesWorseRow.holds Tryd.pinned (OpenSpec.ofChange modesWorseWrong)

/-- 'sennitlaw04.ConfigsNew': WHATEVER THE INPUT: true; the input reads as it did. -/
def configsNewSpec : ChangeSpec := { name := "configsNew", fn := fun _ => fun
  | [d] => { results := [.lit (.bool true)], args := [d] }
  | _ => none }
def configsNewRow : OpenClaim := { program := "ytibncdkekceokaadoor", sum := "0ded2e325431a87c102077328f896f94125f5b45743f8c27b74a147c425acbfa", func := "sennit/sennitlaw04.ConfigsNew", spec := "configsNew", unfollowed := true, recurses := true, named := ["sennit/rings.signs"], apart := false, laid := [("sennit/rings.signs", laid_sennit_rings_signs)] }
def ConfigsNewSaid : Prop := configsNewRow.holds Tryd.pinned (OpenSpec.ofChange configsNewSpec)

/-- ITS FALSE NEIGHBOUR: 'it returns false'. Refute it at one input. -/
def configsNewWrong : ChangeSpec := { name := "configsNew", fn := fun _ => fun
  | [d] => { results := [.lit (.bool false)], args := [d] }
  | _ => none }
def ConfigsNewWrongFalsely : Prop := configsNewRow.holds Tryd.pinned (OpenSpec.ofChange configsNewWrong)

/-- 'sennitlaw04.ConfigsTurned': WHATEVER THE INPUT: true; the input reads as it did. -/
def configsTurnedSpec : ChangeSpec := { name := "configsTurned", fn := fun _ => fun
  | [d1, d2] => { results := [.lit (.bool true)], args := [d1, d2] }
  | _ => none }
def configsTurnedRow : OpenClaim := { program := "ytibncdkekceokaadoor", sum := "0ded2e325431a87c102077328f896f94125f5b45743f8c27b74a147c425acbfa", func := "sennit/sennitlaw04.ConfigsTurned", spec := "configsTurned", unfollowed := true, recurses := true, named := ["sennit/rings.signs"], apart := false, laid := [("sennit/rings.signs", laid_sennit_rings_signs)] }
def ConfigsTurnedSaid : Prop := configsTurnedRow.holds Tryd.pinned (OpenSpec.ofChange configsTurnedSpec)

/-- ITS FALSE NEIGHBOUR: 'it returns false'. Refute it at one input. -/
def configsTurnedWrong : ChangeSpec := { name := "configsTurned", fn := fun _ => fun
  | [d1, d2] => { results := [.lit (.bool false)], args := [d1, d2] }
  | _ => none }
def ConfigsTurnedWrongFalsely : Prop := configsTurnedRow.holds Tryd.pinned (OpenSpec.ofChange configsTurnedWrong)

/-- 'sennitlaw04.ConfigsEdges': WHATEVER THE INPUT: true; the input reads as it did. -/
def configsEdgesSpec : ChangeSpec := { name := "configsEdges", fn := fun _ => fun
  | [d1, d2] => { results := [.lit (.bool true)], args := [d1, d2] }
  | _ => none }
def configsEdgesRow : OpenClaim := { program := "ytibncdkekceokaadoor", sum := "0ded2e325431a87c102077328f896f94125f5b45743f8c27b74a147c425acbfa", func := "sennit/sennitlaw04.ConfigsEdges", spec := "configsEdges", unfollowed := true, recurses := true, named := ["sennit/rings.signs"], apart := false, laid := [("sennit/rings.signs", laid_sennit_rings_signs)] }
def ConfigsEdgesSaid : Prop := configsEdgesRow.holds Tryd.pinned (OpenSpec.ofChange configsEdgesSpec)

/-- ITS FALSE NEIGHBOUR: 'it returns false'. Refute it at one input. -/
def configsEdgesWrong : ChangeSpec := { name := "configsEdges", fn := fun _ => fun
  | [d1, d2] => { results := [.lit (.bool false)], args := [d1, d2] }
  | _ => none }
def ConfigsEdgesWrongFalsely : Prop := configsEdgesRow.holds Tryd.pinned (OpenSpec.ofChange configsEdgesWrong)

/-- 'sennitlaw04.ConfigsVoid': WHATEVER THE INPUT: true; the input reads as it did. -/
def configsVoidSpec : ChangeSpec := { name := "configsVoid", fn := fun _ => fun
  | [d1, d2] => { results := [.lit (.bool true)], args := [d1, d2] }
  | _ => none }
def configsVoidRow : OpenClaim := { program := "ytibncdkekceokaadoor", sum := "0ded2e325431a87c102077328f896f94125f5b45743f8c27b74a147c425acbfa", func := "sennit/sennitlaw04.ConfigsVoid", spec := "configsVoid", unfollowed := true, recurses := true, named := ["sennit/rings.signs"], apart := false, laid := [("sennit/rings.signs", laid_sennit_rings_signs)] }
def ConfigsVoidSaid : Prop := configsVoidRow.holds Tryd.pinned (OpenSpec.ofChange configsVoidSpec)

/-- ITS FALSE NEIGHBOUR: 'it returns false'. Refute it at one input. -/
def configsVoidWrong : ChangeSpec := { name := "configsVoid", fn := fun _ => fun
  | [d1, d2] => { results := [.lit (.bool false)], args := [d1, d2] }
  | _ => none }
def ConfigsVoidWrongFalsely : Prop := configsVoidRow.holds Tryd.pinned (OpenSpec.ofChange configsVoidWrong)

/-- 'sennitlaw04.ConfigsHalves': WHATEVER THE INPUT: true; the input reads as it did. -/
def configsHalvesSpec : ChangeSpec := { name := "configsHalves", fn := fun _ => fun
  | [d1, d2] => { results := [.lit (.bool true)], args := [d1, d2] }
  | _ => none }
def configsHalvesRow : OpenClaim := { program := "ytibncdkekceokaadoor", sum := "0ded2e325431a87c102077328f896f94125f5b45743f8c27b74a147c425acbfa", func := "sennit/sennitlaw04.ConfigsHalves", spec := "configsHalves", unfollowed := true, recurses := true, named := ["sennit/rings.signs"], apart := false, laid := [("sennit/rings.signs", laid_sennit_rings_signs)] }
def ConfigsHalvesSaid : Prop := configsHalvesRow.holds Tryd.pinned (OpenSpec.ofChange configsHalvesSpec)

/-- ITS FALSE NEIGHBOUR: 'it returns false'. Refute it at one input. -/
def configsHalvesWrong : ChangeSpec := { name := "configsHalves", fn := fun _ => fun
  | [d1, d2] => { results := [.lit (.bool false)], args := [d1, d2] }
  | _ => none }
def ConfigsHalvesWrongFalsely : Prop := configsHalvesRow.holds Tryd.pinned (OpenSpec.ofChange configsHalvesWrong)

/-- 'sennitlaw10.WindowsOver': WHATEVER THE INPUT: true; the input reads as it did. -/
def windowsOverSpec : ChangeSpec := { name := "windowsOver", fn := fun _ => fun
  | [d1, d2] => { results := [.lit (.bool true)], args := [d1, d2] }
  | _ => none }
def windowsOverRow : OpenClaim := { program := "ytibncdkekceokaadoor", sum := "0ded2e325431a87c102077328f896f94125f5b45743f8c27b74a147c425acbfa", func := "sennit/sennitlaw10.WindowsOver", spec := "windowsOver", unfollowed := true, recurses := true, named := ["sennit/rings.signs", "sennit/windows.roles"], apart := false, laid := [("sennit/rings.signs", laid_sennit_rings_signs), ("sennit/windows.roles", laid_sennit_windows_roles)] }
def WindowsOverSaid : Prop := windowsOverRow.holds Tryd.pinned (OpenSpec.ofChange windowsOverSpec)

/-- ITS FALSE NEIGHBOUR: 'it returns false'. Refute it at one input. -/
def windowsOverWrong : ChangeSpec := { name := "windowsOver", fn := fun _ => fun
  | [d1, d2] => { results := [.lit (.bool false)], args := [d1, d2] }
  | _ => none }
def WindowsOverWrongFalsely : Prop := windowsOverRow.holds Tryd.pinned (OpenSpec.ofChange windowsOverWrong)

/-- 'sennitlaw10.WindowsOf': WHATEVER THE INPUT: true; the input reads as it did. -/
def windowsOfSpec : ChangeSpec := { name := "windowsOf", fn := fun _ => fun
  | [d1, d2, d3] => { results := [.lit (.bool true)], args := [d1, d2, d3] }
  | _ => none }
def windowsOfRow : OpenClaim := { program := "ytibncdkekceokaadoor", sum := "0ded2e325431a87c102077328f896f94125f5b45743f8c27b74a147c425acbfa", func := "sennit/sennitlaw10.WindowsOf", spec := "windowsOf", unfollowed := true, recurses := true, named := ["sennit/rings.signs", "sennit/windows.roles"], apart := false, laid := [("sennit/rings.signs", laid_sennit_rings_signs), ("sennit/windows.roles", laid_sennit_windows_roles)] }
def WindowsOfSaid : Prop := windowsOfRow.holds Tryd.pinned (OpenSpec.ofChange windowsOfSpec)

/-- ITS FALSE NEIGHBOUR: 'it returns false'. Refute it at one input. -/
def windowsOfWrong : ChangeSpec := { name := "windowsOf", fn := fun _ => fun
  | [d1, d2, d3] => { results := [.lit (.bool false)], args := [d1, d2, d3] }
  | _ => none }
def WindowsOfWrongFalsely : Prop := windowsOfRow.holds Tryd.pinned (OpenSpec.ofChange windowsOfWrong)

/-- 'sennitlaw10.WindowsVoid': WHATEVER THE INPUT: true; the input reads as it did. -/
def windowsVoidSpec : ChangeSpec := { name := "windowsVoid", fn := fun _ => fun
  | [d] => { results := [.lit (.bool true)], args := [d] }
  | _ => none }
def windowsVoidRow : OpenClaim := { program := "ytibncdkekceokaadoor", sum := "0ded2e325431a87c102077328f896f94125f5b45743f8c27b74a147c425acbfa", func := "sennit/sennitlaw10.WindowsVoid", spec := "windowsVoid", unfollowed := true, recurses := true, named := ["sennit/windows.roles", "sennit/rings.signs"], apart := false, laid := [("sennit/rings.signs", laid_sennit_rings_signs), ("sennit/windows.roles", laid_sennit_windows_roles)] }
def WindowsVoidSaid : Prop := windowsVoidRow.holds Tryd.pinned (OpenSpec.ofChange windowsVoidSpec)

/-- ITS FALSE NEIGHBOUR: 'it returns false'. Refute it at one input. -/
def windowsVoidWrong : ChangeSpec := { name := "windowsVoid", fn := fun _ => fun
  | [d] => { results := [.lit (.bool false)], args := [d] }
  | _ => none }
def WindowsVoidWrongFalsely : Prop := windowsVoidRow.holds Tryd.pinned (OpenSpec.ofChange windowsVoidWrong)

/-- 'sennitlaw10.WindowsGuards': WHATEVER THE INPUT: true; the input reads as it did. -/
def windowsGuardsSpec : ChangeSpec := { name := "windowsGuards", fn := fun _ => fun
  | [d1, d2] => { results := [.lit (.bool true)], args := [d1, d2] }
  | _ => none }
def windowsGuardsRow : OpenClaim := { program := "ytibncdkekceokaadoor", sum := "0ded2e325431a87c102077328f896f94125f5b45743f8c27b74a147c425acbfa", func := "sennit/sennitlaw10.WindowsGuards", spec := "windowsGuards", unfollowed := true, recurses := true, named := ["sennit/rings.signs", "sennit/windows.roles"], apart := false, laid := [("sennit/rings.signs", laid_sennit_rings_signs), ("sennit/windows.roles", laid_sennit_windows_roles)] }
def WindowsGuardsSaid : Prop := windowsGuardsRow.holds Tryd.pinned (OpenSpec.ofChange windowsGuardsSpec)

/-- ITS FALSE NEIGHBOUR: 'it returns false'. Refute it at one input. -/
def windowsGuardsWrong : ChangeSpec := { name := "windowsGuards", fn := fun _ => fun
  | [d1, d2] => { results := [.lit (.bool false)], args := [d1, d2] }
  | _ => none }
def WindowsGuardsWrongFalsely : Prop := windowsGuardsRow.holds Tryd.pinned (OpenSpec.ofChange windowsGuardsWrong)

/-- 'sennitlaw10.WindowsMeet': WHATEVER THE INPUT: true; the input reads as it did. -/
def windowsMeetSpec : ChangeSpec := { name := "windowsMeet", fn := fun _ => fun
  | [d1, d2, d3] => { results := [.lit (.bool true)], args := [d1, d2, d3] }
  | _ => none }
def windowsMeetRow : OpenClaim := { program := "ytibncdkekceokaadoor", sum := "0ded2e325431a87c102077328f896f94125f5b45743f8c27b74a147c425acbfa", func := "sennit/sennitlaw10.WindowsMeet", spec := "windowsMeet", unfollowed := true, recurses := true, named := ["sennit/rings.signs", "sennit/windows.roles"], apart := false, laid := [("sennit/rings.signs", laid_sennit_rings_signs), ("sennit/windows.roles", laid_sennit_windows_roles)] }
def WindowsMeetSaid : Prop := windowsMeetRow.holds Tryd.pinned (OpenSpec.ofChange windowsMeetSpec)

/-- ITS FALSE NEIGHBOUR: 'it returns false'. Refute it at one input. -/
def windowsMeetWrong : ChangeSpec := { name := "windowsMeet", fn := fun _ => fun
  | [d1, d2, d3] => { results := [.lit (.bool false)], args := [d1, d2, d3] }
  | _ => none }
def WindowsMeetWrongFalsely : Prop := windowsMeetRow.holds Tryd.pinned (OpenSpec.ofChange windowsMeetWrong)

/-- 'sennitlaw19.HostsOffer': WHATEVER THE INPUT: true; the input reads as it did. -/
def hostsOfferSpec : ChangeSpec := { name := "hostsOffer", fn := fun _ => fun
  | [d1, d2] => { results := [.lit (.bool true)], args := [d1, d2] }
  | _ => none }
def hostsOfferRow : OpenClaim := { program := "ytibncdkekceokaadoor", sum := "0ded2e325431a87c102077328f896f94125f5b45743f8c27b74a147c425acbfa", func := "sennit/sennitlaw19.HostsOffer", spec := "hostsOffer", unfollowed := true, recurses := true, named := ["sennit/rings.signs"], apart := false, laid := [("sennit/rings.signs", laid_sennit_rings_signs)] }
def HostsOfferSaid : Prop := hostsOfferRow.holds Tryd.pinned (OpenSpec.ofChange hostsOfferSpec)

/-- ITS FALSE NEIGHBOUR: 'it returns false'. Refute it at one input. -/
def hostsOfferWrong : ChangeSpec := { name := "hostsOffer", fn := fun _ => fun
  | [d1, d2] => { results := [.lit (.bool false)], args := [d1, d2] }
  | _ => none }
def HostsOfferWrongFalsely : Prop := hostsOfferRow.holds Tryd.pinned (OpenSpec.ofChange hostsOfferWrong)

/-- 'sennitlaw19.HostsBox': WHATEVER THE INPUT: true; the input reads as it did. -/
def hostsBoxSpec : ChangeSpec := { name := "hostsBox", fn := fun _ => fun
  | [d1, d2] => { results := [.lit (.bool true)], args := [d1, d2] }
  | _ => none }
def hostsBoxRow : OpenClaim := { program := "ytibncdkekceokaadoor", sum := "0ded2e325431a87c102077328f896f94125f5b45743f8c27b74a147c425acbfa", func := "sennit/sennitlaw19.HostsBox", spec := "hostsBox", unfollowed := true, recurses := true, named := ["sennit/rings.signs"], apart := false, laid := [("sennit/rings.signs", laid_sennit_rings_signs)] }
def HostsBoxSaid : Prop := hostsBoxRow.holds Tryd.pinned (OpenSpec.ofChange hostsBoxSpec)

/-- ITS FALSE NEIGHBOUR: 'it returns false'. Refute it at one input. -/
def hostsBoxWrong : ChangeSpec := { name := "hostsBox", fn := fun _ => fun
  | [d1, d2] => { results := [.lit (.bool false)], args := [d1, d2] }
  | _ => none }
def HostsBoxWrongFalsely : Prop := hostsBoxRow.holds Tryd.pinned (OpenSpec.ofChange hostsBoxWrong)

/-- 'sennitlaw19.HostsVoid': WHATEVER THE INPUT: true; the input reads as it did. -/
def hostsVoidSpec : ChangeSpec := { name := "hostsVoid", fn := fun _ => fun
  | [d] => { results := [.lit (.bool true)], args := [d] }
  | _ => none }
def hostsVoidRow : OpenClaim := { program := "ytibncdkekceokaadoor", sum := "0ded2e325431a87c102077328f896f94125f5b45743f8c27b74a147c425acbfa", func := "sennit/sennitlaw19.HostsVoid", spec := "hostsVoid", unfollowed := true, recurses := true, named := ["sennit/rings.signs"], apart := false, laid := [("sennit/rings.signs", laid_sennit_rings_signs)] }
def HostsVoidSaid : Prop := hostsVoidRow.holds Tryd.pinned (OpenSpec.ofChange hostsVoidSpec)

/-- ITS FALSE NEIGHBOUR: 'it returns false'. Refute it at one input. -/
def hostsVoidWrong : ChangeSpec := { name := "hostsVoid", fn := fun _ => fun
  | [d] => { results := [.lit (.bool false)], args := [d] }
  | _ => none }
def HostsVoidWrongFalsely : Prop := hostsVoidRow.holds Tryd.pinned (OpenSpec.ofChange hostsVoidWrong)

/-- 'sennitlaw19.HostsLast': WHATEVER THE INPUT: true; the input reads as it did. -/
def hostsLastSpec : ChangeSpec := { name := "hostsLast", fn := fun _ => fun
  | [d1, d2, d3] => { results := [.lit (.bool true)], args := [d1, d2, d3] }
  | _ => none }
def hostsLastRow : OpenClaim := { program := "ytibncdkekceokaadoor", sum := "0ded2e325431a87c102077328f896f94125f5b45743f8c27b74a147c425acbfa", func := "sennit/sennitlaw19.HostsLast", spec := "hostsLast", unfollowed := true, recurses := true, named := ["sennit/rings.signs"], apart := false, laid := [("sennit/rings.signs", laid_sennit_rings_signs)] }
def HostsLastSaid : Prop := hostsLastRow.holds Tryd.pinned (OpenSpec.ofChange hostsLastSpec)

/-- ITS FALSE NEIGHBOUR: 'it returns false'. Refute it at one input. -/
def hostsLastWrong : ChangeSpec := { name := "hostsLast", fn := fun _ => fun
  | [d1, d2, d3] => { results := [.lit (.bool false)], args := [d1, d2, d3] }
  | _ => none }
def HostsLastWrongFalsely : Prop := hostsLastRow.holds Tryd.pinned (OpenSpec.ofChange hostsLastWrong)

/-- 'sennitlaw19.HostsAges': WHATEVER THE INPUT: true; the input reads as it did. -/
def hostsAgesSpec : ChangeSpec := { name := "hostsAges", fn := fun _ => fun
  | [d1, d2, d3] => { results := [.lit (.bool true)], args := [d1, d2, d3] }
  | _ => none }
def hostsAgesRow : OpenClaim := { program := "ytibncdkekceokaadoor", sum := "0ded2e325431a87c102077328f896f94125f5b45743f8c27b74a147c425acbfa", func := "sennit/sennitlaw19.HostsAges", spec := "hostsAges", unfollowed := true, recurses := true, named := ["sennit/rings.signs"], apart := false, laid := [("sennit/rings.signs", laid_sennit_rings_signs)] }
def HostsAgesSaid : Prop := hostsAgesRow.holds Tryd.pinned (OpenSpec.ofChange hostsAgesSpec)

/-- ITS FALSE NEIGHBOUR: 'it returns false'. Refute it at one input. -/
def hostsAgesWrong : ChangeSpec := { name := "hostsAges", fn := fun _ => fun
  | [d1, d2, d3] => { results := [.lit (.bool false)], args := [d1, d2, d3] }
  | _ => none }
def HostsAgesWrongFalsely : Prop := hostsAgesRow.holds Tryd.pinned (OpenSpec.ofChange hostsAgesWrong)

/- THE SECOND FORM. 'bulk': how many values and letters a reading holds, each counted each time it is reached (what is shared counts as often as it is met; a slice's spare places count too). A statement '..UptoSaid' is the law's where the arguments, and the package variables that the reading takes, are together of bulk at most 1048576: NARROWER than '..Said'. Prove '..Said' where nothing that the law and all that it calls make is longer than what came in: it says more and counts as full. Else prove '..UptoSaid'. A law counts once. -/
mutual
def uptoBulk {H : Type} : DataW H → Nat
  | .lit (.string bytes) => bytes.length + 1
  | .lit _ => 1
  | .nil => 1
  | .ptr d => uptoBulk d + 1
  | .slice elems spare => uptoBulkAll elems + uptoBulkAll spare + 1
  | .agg parts => uptoBulkAll parts + 1
  | .iface _ d => uptoBulk d + 1
  | .map entries => uptoBulkEntries entries + 1
  | .held _ => 1
def uptoBulkAll {H : Type} : List (DataW H) → Nat
  | [] => 0
  | d :: r => uptoBulk d + uptoBulkAll r
def uptoBulkEntries {H : Type} : List (Lit × DataW H) → Nat
  | [] => 0
  | x :: r => uptoBulkEntry x + uptoBulkEntries r
def uptoBulkEntry {H : Type} : Lit × DataW H → Nat
  | (.string bytes, d) => bytes.length + uptoBulk d + 1
  | (_, d) => uptoBulk d + 1
 end
def uptoSmall : (H : Type) → List (DataW H) → Bool := fun _ ds => decide (uptoBulkAll ds ≤ 1048576)
def OpenSpec.upto (s : _root_.Go.ChangeSpec) : _root_.Go.OpenSpec := { _root_.Go.OpenSpec.ofChange s with cond := some uptoSmall }

/-- 'sennitlaw25.ModesAny', WHERE WHAT IT READS IS OF BULK AT MOST 1048576: true; the input reads as it did. -/
def modesAnyUptoRow : OpenClaim := { program := "ytibncdkekceokaadoor", sum := "0ded2e325431a87c102077328f896f94125f5b45743f8c27b74a147c425acbfa", func := "sennit/sennitlaw25.ModesAny", spec := "modesAny", unfollowed := true, recurses := true, named := ["sennit/rings.signs", "sennit/modes.edges"], apart := false, laid := [("sennit/rings.signs", laid_sennit_rings_signs), ("sennit/modes.edges", laid_sennit_modes_edges)], narrowed := true }
def ModesAnyUptoSaid : Prop := modesAnyUptoRow.holds Tryd.pinned (OpenSpec.upto modesAnySpec)

/-- 'sennitlaw25.ModesTotal', WHERE WHAT IT READS IS OF BULK AT MOST 1048576: true; the input reads as it did. -/
def modesTotalUptoRow : OpenClaim := { program := "ytibncdkekceokaadoor", sum := "0ded2e325431a87c102077328f896f94125f5b45743f8c27b74a147c425acbfa", func := "sennit/sennitlaw25.ModesTotal", spec := "modesTotal", unfollowed := true, recurses := true, named := ["sennit/rings.signs", "sennit/modes.edges"], apart := false, laid := [("sennit/rings.signs", laid_sennit_rings_signs), ("sennit/modes.edges", laid_sennit_modes_edges)], narrowed := true }
def ModesTotalUptoSaid : Prop := modesTotalUptoRow.holds Tryd.pinned (OpenSpec.upto modesTotalSpec)

/-- 'sennitlaw25.ModesWorse', WHERE WHAT IT READS IS OF BULK AT MOST 1048576: true; the input reads as it did. -/
def modesWorseUptoRow : OpenClaim := { program := "ytibncdkekceokaadoor", sum := "0ded2e325431a87c102077328f896f94125f5b45743f8c27b74a147c425acbfa", func := "sennit/sennitlaw25.ModesWorse", spec := "modesWorse", unfollowed := true, recurses := true, named := ["sennit/rings.signs", "sennit/modes.edges"], apart := false, laid := [("sennit/rings.signs", laid_sennit_rings_signs), ("sennit/modes.edges", laid_sennit_modes_edges)], narrowed := true }
def ModesWorseUptoSaid : Prop := modesWorseUptoRow.holds Tryd.pinned (OpenSpec.upto modesWorseSpec)

/-- 'sennitlaw04.ConfigsNew', WHERE WHAT IT READS IS OF BULK AT MOST 1048576: true; the input reads as it did. -/
def configsNewUptoRow : OpenClaim := { program := "ytibncdkekceokaadoor", sum := "0ded2e325431a87c102077328f896f94125f5b45743f8c27b74a147c425acbfa", func := "sennit/sennitlaw04.ConfigsNew", spec := "configsNew", unfollowed := true, recurses := true, named := ["sennit/rings.signs"], apart := false, laid := [("sennit/rings.signs", laid_sennit_rings_signs)], narrowed := true }
def ConfigsNewUptoSaid : Prop := configsNewUptoRow.holds Tryd.pinned (OpenSpec.upto configsNewSpec)

/-- 'sennitlaw04.ConfigsTurned', WHERE WHAT IT READS IS OF BULK AT MOST 1048576: true; the input reads as it did. -/
def configsTurnedUptoRow : OpenClaim := { program := "ytibncdkekceokaadoor", sum := "0ded2e325431a87c102077328f896f94125f5b45743f8c27b74a147c425acbfa", func := "sennit/sennitlaw04.ConfigsTurned", spec := "configsTurned", unfollowed := true, recurses := true, named := ["sennit/rings.signs"], apart := false, laid := [("sennit/rings.signs", laid_sennit_rings_signs)], narrowed := true }
def ConfigsTurnedUptoSaid : Prop := configsTurnedUptoRow.holds Tryd.pinned (OpenSpec.upto configsTurnedSpec)

/-- 'sennitlaw04.ConfigsEdges', WHERE WHAT IT READS IS OF BULK AT MOST 1048576: true; the input reads as it did. -/
def configsEdgesUptoRow : OpenClaim := { program := "ytibncdkekceokaadoor", sum := "0ded2e325431a87c102077328f896f94125f5b45743f8c27b74a147c425acbfa", func := "sennit/sennitlaw04.ConfigsEdges", spec := "configsEdges", unfollowed := true, recurses := true, named := ["sennit/rings.signs"], apart := false, laid := [("sennit/rings.signs", laid_sennit_rings_signs)], narrowed := true }
def ConfigsEdgesUptoSaid : Prop := configsEdgesUptoRow.holds Tryd.pinned (OpenSpec.upto configsEdgesSpec)

/-- 'sennitlaw04.ConfigsVoid', WHERE WHAT IT READS IS OF BULK AT MOST 1048576: true; the input reads as it did. -/
def configsVoidUptoRow : OpenClaim := { program := "ytibncdkekceokaadoor", sum := "0ded2e325431a87c102077328f896f94125f5b45743f8c27b74a147c425acbfa", func := "sennit/sennitlaw04.ConfigsVoid", spec := "configsVoid", unfollowed := true, recurses := true, named := ["sennit/rings.signs"], apart := false, laid := [("sennit/rings.signs", laid_sennit_rings_signs)], narrowed := true }
def ConfigsVoidUptoSaid : Prop := configsVoidUptoRow.holds Tryd.pinned (OpenSpec.upto configsVoidSpec)

/-- 'sennitlaw04.ConfigsHalves', WHERE WHAT IT READS IS OF BULK AT MOST 1048576: true; the input reads as it did. -/
def configsHalvesUptoRow : OpenClaim := { program := "ytibncdkekceokaadoor", sum := "0ded2e325431a87c102077328f896f94125f5b45743f8c27b74a147c425acbfa", func := "sennit/sennitlaw04.ConfigsHalves", spec := "configsHalves", unfollowed := true, recurses := true, named := ["sennit/rings.signs"], apart := false, laid := [("sennit/rings.signs", laid_sennit_rings_signs)], narrowed := true }
def ConfigsHalvesUptoSaid : Prop := configsHalvesUptoRow.holds Tryd.pinned (OpenSpec.upto configsHalvesSpec)

/-- 'sennitlaw10.WindowsOver', WHERE WHAT IT READS IS OF BULK AT MOST 1048576: true; the input reads as it did. -/
def windowsOverUptoRow : OpenClaim := { program := "ytibncdkekceokaadoor", sum := "0ded2e325431a87c102077328f896f94125f5b45743f8c27b74a147c425acbfa", func := "sennit/sennitlaw10.WindowsOver", spec := "windowsOver", unfollowed := true, recurses := true, named := ["sennit/rings.signs", "sennit/windows.roles"], apart := false, laid := [("sennit/rings.signs", laid_sennit_rings_signs), ("sennit/windows.roles", laid_sennit_windows_roles)], narrowed := true }
def WindowsOverUptoSaid : Prop := windowsOverUptoRow.holds Tryd.pinned (OpenSpec.upto windowsOverSpec)

/-- 'sennitlaw10.WindowsOf', WHERE WHAT IT READS IS OF BULK AT MOST 1048576: true; the input reads as it did. -/
def windowsOfUptoRow : OpenClaim := { program := "ytibncdkekceokaadoor", sum := "0ded2e325431a87c102077328f896f94125f5b45743f8c27b74a147c425acbfa", func := "sennit/sennitlaw10.WindowsOf", spec := "windowsOf", unfollowed := true, recurses := true, named := ["sennit/rings.signs", "sennit/windows.roles"], apart := false, laid := [("sennit/rings.signs", laid_sennit_rings_signs), ("sennit/windows.roles", laid_sennit_windows_roles)], narrowed := true }
def WindowsOfUptoSaid : Prop := windowsOfUptoRow.holds Tryd.pinned (OpenSpec.upto windowsOfSpec)

/-- 'sennitlaw10.WindowsVoid', WHERE WHAT IT READS IS OF BULK AT MOST 1048576: true; the input reads as it did. -/
def windowsVoidUptoRow : OpenClaim := { program := "ytibncdkekceokaadoor", sum := "0ded2e325431a87c102077328f896f94125f5b45743f8c27b74a147c425acbfa", func := "sennit/sennitlaw10.WindowsVoid", spec := "windowsVoid", unfollowed := true, recurses := true, named := ["sennit/windows.roles", "sennit/rings.signs"], apart := false, laid := [("sennit/rings.signs", laid_sennit_rings_signs), ("sennit/windows.roles", laid_sennit_windows_roles)], narrowed := true }
def WindowsVoidUptoSaid : Prop := windowsVoidUptoRow.holds Tryd.pinned (OpenSpec.upto windowsVoidSpec)

/-- 'sennitlaw10.WindowsGuards', WHERE WHAT IT READS IS OF BULK AT MOST 1048576: true; the input reads as it did. -/
def windowsGuardsUptoRow : OpenClaim := { program := "ytibncdkekceokaadoor", sum := "0ded2e325431a87c102077328f896f94125f5b45743f8c27b74a147c425acbfa", func := "sennit/sennitlaw10.WindowsGuards", spec := "windowsGuards", unfollowed := true, recurses := true, named := ["sennit/rings.signs", "sennit/windows.roles"], apart := false, laid := [("sennit/rings.signs", laid_sennit_rings_signs), ("sennit/windows.roles", laid_sennit_windows_roles)], narrowed := true }
def WindowsGuardsUptoSaid : Prop := windowsGuardsUptoRow.holds Tryd.pinned (OpenSpec.upto windowsGuardsSpec)

/-- 'sennitlaw10.WindowsMeet', WHERE WHAT IT READS IS OF BULK AT MOST 1048576: true; the input reads as it did. -/
def windowsMeetUptoRow : OpenClaim := { program := "ytibncdkekceokaadoor", sum := "0ded2e325431a87c102077328f896f94125f5b45743f8c27b74a147c425acbfa", func := "sennit/sennitlaw10.WindowsMeet", spec := "windowsMeet", unfollowed := true, recurses := true, named := ["sennit/rings.signs", "sennit/windows.roles"], apart := false, laid := [("sennit/rings.signs", laid_sennit_rings_signs), ("sennit/windows.roles", laid_sennit_windows_roles)], narrowed := true }
def WindowsMeetUptoSaid : Prop := windowsMeetUptoRow.holds Tryd.pinned (OpenSpec.upto windowsMeetSpec)

/-- 'sennitlaw19.HostsOffer', WHERE WHAT IT READS IS OF BULK AT MOST 1048576: true; the input reads as it did. -/
def hostsOfferUptoRow : OpenClaim := { program := "ytibncdkekceokaadoor", sum := "0ded2e325431a87c102077328f896f94125f5b45743f8c27b74a147c425acbfa", func := "sennit/sennitlaw19.HostsOffer", spec := "hostsOffer", unfollowed := true, recurses := true, named := ["sennit/rings.signs"], apart := false, laid := [("sennit/rings.signs", laid_sennit_rings_signs)], narrowed := true }
def HostsOfferUptoSaid : Prop := hostsOfferUptoRow.holds Tryd.pinned (OpenSpec.upto hostsOfferSpec)

/-- 'sennitlaw19.HostsBox', WHERE WHAT IT READS IS OF BULK AT MOST 1048576: true; the input reads as it did. -/
def hostsBoxUptoRow : OpenClaim := { program := "ytibncdkekceokaadoor", sum := "0ded2e325431a87c102077328f896f94125f5b45743f8c27b74a147c425acbfa", func := "sennit/sennitlaw19.HostsBox", spec := "hostsBox", unfollowed := true, recurses := true, named := ["sennit/rings.signs"], apart := false, laid := [("sennit/rings.signs", laid_sennit_rings_signs)], narrowed := true }
def HostsBoxUptoSaid : Prop := hostsBoxUptoRow.holds Tryd.pinned (OpenSpec.upto hostsBoxSpec)

/-- 'sennitlaw19.HostsVoid', WHERE WHAT IT READS IS OF BULK AT MOST 1048576: true; the input reads as it did. -/
def hostsVoidUptoRow : OpenClaim := { program := "ytibncdkekceokaadoor", sum := "0ded2e325431a87c102077328f896f94125f5b45743f8c27b74a147c425acbfa", func := "sennit/sennitlaw19.HostsVoid", spec := "hostsVoid", unfollowed := true, recurses := true, named := ["sennit/rings.signs"], apart := false, laid := [("sennit/rings.signs", laid_sennit_rings_signs)], narrowed := true }
def HostsVoidUptoSaid : Prop := hostsVoidUptoRow.holds Tryd.pinned (OpenSpec.upto hostsVoidSpec)

/-- 'sennitlaw19.HostsLast', WHERE WHAT IT READS IS OF BULK AT MOST 1048576: true; the input reads as it did. -/
def hostsLastUptoRow : OpenClaim := { program := "ytibncdkekceokaadoor", sum := "0ded2e325431a87c102077328f896f94125f5b45743f8c27b74a147c425acbfa", func := "sennit/sennitlaw19.HostsLast", spec := "hostsLast", unfollowed := true, recurses := true, named := ["sennit/rings.signs"], apart := false, laid := [("sennit/rings.signs", laid_sennit_rings_signs)], narrowed := true }
def HostsLastUptoSaid : Prop := hostsLastUptoRow.holds Tryd.pinned (OpenSpec.upto hostsLastSpec)

/-- 'sennitlaw19.HostsAges', WHERE WHAT IT READS IS OF BULK AT MOST 1048576: true; the input reads as it did. -/
def hostsAgesUptoRow : OpenClaim := { program := "ytibncdkekceokaadoor", sum := "0ded2e325431a87c102077328f896f94125f5b45743f8c27b74a147c425acbfa", func := "sennit/sennitlaw19.HostsAges", spec := "hostsAges", unfollowed := true, recurses := true, named := ["sennit/rings.signs"], apart := false, laid := [("sennit/rings.signs", laid_sennit_rings_signs)], narrowed := true }
def HostsAgesUptoSaid : Prop := hostsAgesUptoRow.holds Tryd.pinned (OpenSpec.upto hostsAgesSpec)

end Rows
end Go.Proofs.YtibncdkekceokaaDoor
