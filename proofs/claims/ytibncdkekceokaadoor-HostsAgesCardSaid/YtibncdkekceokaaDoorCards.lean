/-
  DERIVED. GIVEN WITH THE SEED: THE CARDS: each row of YtibncdkekceokaaDoorRows.lean that lists a variable, with what it lists TIED to the program's text (the seventh form; the later family's looks); each row that meets fmt, with fmt's text TOLD by the authors' own Lean function (tested against real Go, not proved from fmt's source: count such statements apart). THE CARD IS WHAT COUNTS. Prove the row's statement (the work); the ties are given (YtibncdkekceokaaDoorTie.lean); close each card by the builder's one call (the guide's Derived/Test/ToyasCard.lean, 'card_holds'). Laid BY PROGRAM, IN A SANDBOX (cutbox-door.mjs). By AI agents, Wed Nov 11 2026. No macro, syntax, notation, axiom, sorry.
-/
import Derived.Test.YtibncdkekceokaaDoorRows
import GoSem.ClaimSeven
namespace Go.Proofs.YtibncdkekceokaaDoor
namespace Rows

/-- THE TIED CARD OF 'sennitlaw25.ModesAny'. -/
def modesAnyCard : Claim7 := { stood := { row := modesAnyRow, standIns := [], harness := (true, "bac923f827cd166fe1c661641a64035cffa264d14ff2ca5c76bdf830631e02ce"), looks := false }, kinds := [], alts := [], laidByText := true, laidKinds := [.data, .data], laidTests := true, laidLooks := .later }
def ModesAnyCardSaid : Prop := Claim7.holds Tryd.pinned (.plain (OpenSpec.ofChange modesAnySpec)) modesAnyCard

/-- THE TIED CARD OF 'sennitlaw25.ModesTotal'. -/
def modesTotalCard : Claim7 := { stood := { row := modesTotalRow, standIns := [], harness := (true, "bac923f827cd166fe1c661641a64035cffa264d14ff2ca5c76bdf830631e02ce"), looks := false }, kinds := [], alts := [], laidByText := true, laidKinds := [.data, .data], laidTests := true, laidLooks := .later }
def ModesTotalCardSaid : Prop := Claim7.holds Tryd.pinned (.plain (OpenSpec.ofChange modesTotalSpec)) modesTotalCard

/-- THE TIED CARD OF 'sennitlaw25.ModesWorse'. -/
def modesWorseCard : Claim7 := { stood := { row := modesWorseRow, standIns := [], harness := (true, "bac923f827cd166fe1c661641a64035cffa264d14ff2ca5c76bdf830631e02ce"), looks := false }, kinds := [], alts := [], laidByText := true, laidKinds := [.data, .data], laidTests := true, laidLooks := .later }
def ModesWorseCardSaid : Prop := Claim7.holds Tryd.pinned (.plain (OpenSpec.ofChange modesWorseSpec)) modesWorseCard

/-- THE TIED CARD OF 'sennitlaw04.ConfigsNew'. -/
def configsNewCard : Claim7 := { stood := { row := configsNewRow, standIns := [], harness := (true, "bac923f827cd166fe1c661641a64035cffa264d14ff2ca5c76bdf830631e02ce"), looks := false }, kinds := [], alts := [], laidByText := true, laidKinds := [.data], laidTests := true, laidLooks := .later }
def ConfigsNewCardSaid : Prop := Claim7.holds Tryd.pinned (.plain (OpenSpec.ofChange configsNewSpec)) configsNewCard

/-- THE TIED CARD OF 'sennitlaw04.ConfigsTurned'. -/
def configsTurnedCard : Claim7 := { stood := { row := configsTurnedRow, standIns := [], harness := (true, "bac923f827cd166fe1c661641a64035cffa264d14ff2ca5c76bdf830631e02ce"), looks := false }, kinds := [], alts := [], laidByText := true, laidKinds := [.data], laidTests := true, laidLooks := .later }
def ConfigsTurnedCardSaid : Prop := Claim7.holds Tryd.pinned (.plain (OpenSpec.ofChange configsTurnedSpec)) configsTurnedCard

/-- THE TIED CARD OF 'sennitlaw04.ConfigsEdges'. -/
def configsEdgesCard : Claim7 := { stood := { row := configsEdgesRow, standIns := [], harness := (true, "bac923f827cd166fe1c661641a64035cffa264d14ff2ca5c76bdf830631e02ce"), looks := false }, kinds := [], alts := [], laidByText := true, laidKinds := [.data], laidTests := true, laidLooks := .later }
def ConfigsEdgesCardSaid : Prop := Claim7.holds Tryd.pinned (.plain (OpenSpec.ofChange configsEdgesSpec)) configsEdgesCard

/-- THE TIED CARD OF 'sennitlaw04.ConfigsVoid'. -/
def configsVoidCard : Claim7 := { stood := { row := configsVoidRow, standIns := [], harness := (true, "bac923f827cd166fe1c661641a64035cffa264d14ff2ca5c76bdf830631e02ce"), looks := false }, kinds := [], alts := [], laidByText := true, laidKinds := [.data], laidTests := true, laidLooks := .later }
def ConfigsVoidCardSaid : Prop := Claim7.holds Tryd.pinned (.plain (OpenSpec.ofChange configsVoidSpec)) configsVoidCard

/-- THE TIED CARD OF 'sennitlaw04.ConfigsHalves'. -/
def configsHalvesCard : Claim7 := { stood := { row := configsHalvesRow, standIns := [], harness := (true, "bac923f827cd166fe1c661641a64035cffa264d14ff2ca5c76bdf830631e02ce"), looks := false }, kinds := [], alts := [], laidByText := true, laidKinds := [.data], laidTests := true, laidLooks := .later }
def ConfigsHalvesCardSaid : Prop := Claim7.holds Tryd.pinned (.plain (OpenSpec.ofChange configsHalvesSpec)) configsHalvesCard

/-- THE TIED CARD OF 'sennitlaw10.WindowsOver'. -/
def windowsOverCard : Claim7 := { stood := { row := windowsOverRow, standIns := [], harness := (true, "bac923f827cd166fe1c661641a64035cffa264d14ff2ca5c76bdf830631e02ce"), looks := false }, kinds := [], alts := [], laidByText := true, laidKinds := [.data, .data], laidTests := true, laidLooks := .later }
def WindowsOverCardSaid : Prop := Claim7.holds Tryd.pinned (.plain (OpenSpec.ofChange windowsOverSpec)) windowsOverCard

/-- THE TIED CARD OF 'sennitlaw10.WindowsOf'. -/
def windowsOfCard : Claim7 := { stood := { row := windowsOfRow, standIns := [], harness := (true, "bac923f827cd166fe1c661641a64035cffa264d14ff2ca5c76bdf830631e02ce"), looks := false }, kinds := [], alts := [], laidByText := true, laidKinds := [.data, .data], laidTests := true, laidLooks := .later }
def WindowsOfCardSaid : Prop := Claim7.holds Tryd.pinned (.plain (OpenSpec.ofChange windowsOfSpec)) windowsOfCard

/-- THE TIED CARD OF 'sennitlaw10.WindowsVoid'. -/
def windowsVoidCard : Claim7 := { stood := { row := windowsVoidRow, standIns := [], harness := (true, "bac923f827cd166fe1c661641a64035cffa264d14ff2ca5c76bdf830631e02ce"), looks := false }, kinds := [], alts := [], laidByText := true, laidKinds := [.data, .data], laidTests := true, laidLooks := .later }
def WindowsVoidCardSaid : Prop := Claim7.holds Tryd.pinned (.plain (OpenSpec.ofChange windowsVoidSpec)) windowsVoidCard

/-- THE TIED CARD OF 'sennitlaw10.WindowsGuards'. -/
def windowsGuardsCard : Claim7 := { stood := { row := windowsGuardsRow, standIns := [], harness := (true, "bac923f827cd166fe1c661641a64035cffa264d14ff2ca5c76bdf830631e02ce"), looks := false }, kinds := [], alts := [], laidByText := true, laidKinds := [.data, .data], laidTests := true, laidLooks := .later }
def WindowsGuardsCardSaid : Prop := Claim7.holds Tryd.pinned (.plain (OpenSpec.ofChange windowsGuardsSpec)) windowsGuardsCard

/-- THE TIED CARD OF 'sennitlaw10.WindowsMeet'. -/
def windowsMeetCard : Claim7 := { stood := { row := windowsMeetRow, standIns := [], harness := (true, "bac923f827cd166fe1c661641a64035cffa264d14ff2ca5c76bdf830631e02ce"), looks := false }, kinds := [], alts := [], laidByText := true, laidKinds := [.data, .data], laidTests := true, laidLooks := .later }
def WindowsMeetCardSaid : Prop := Claim7.holds Tryd.pinned (.plain (OpenSpec.ofChange windowsMeetSpec)) windowsMeetCard

/-- THE TIED CARD OF 'sennitlaw19.HostsOffer'. -/
def hostsOfferCard : Claim7 := { stood := { row := hostsOfferRow, standIns := [], harness := (true, "bac923f827cd166fe1c661641a64035cffa264d14ff2ca5c76bdf830631e02ce"), looks := false }, kinds := [], alts := [], laidByText := true, laidKinds := [.data], laidTests := true, laidLooks := .later }
def HostsOfferCardSaid : Prop := Claim7.holds Tryd.pinned (.plain (OpenSpec.ofChange hostsOfferSpec)) hostsOfferCard

/-- THE TIED CARD OF 'sennitlaw19.HostsBox'. -/
def hostsBoxCard : Claim7 := { stood := { row := hostsBoxRow, standIns := [], harness := (true, "bac923f827cd166fe1c661641a64035cffa264d14ff2ca5c76bdf830631e02ce"), looks := false }, kinds := [], alts := [], laidByText := true, laidKinds := [.data], laidTests := true, laidLooks := .later }
def HostsBoxCardSaid : Prop := Claim7.holds Tryd.pinned (.plain (OpenSpec.ofChange hostsBoxSpec)) hostsBoxCard

/-- THE TIED CARD OF 'sennitlaw19.HostsVoid'. -/
def hostsVoidCard : Claim7 := { stood := { row := hostsVoidRow, standIns := [], harness := (true, "bac923f827cd166fe1c661641a64035cffa264d14ff2ca5c76bdf830631e02ce"), looks := false }, kinds := [], alts := [], laidByText := true, laidKinds := [.data], laidTests := true, laidLooks := .later }
def HostsVoidCardSaid : Prop := Claim7.holds Tryd.pinned (.plain (OpenSpec.ofChange hostsVoidSpec)) hostsVoidCard

/-- THE TIED CARD OF 'sennitlaw19.HostsLast'. -/
def hostsLastCard : Claim7 := { stood := { row := hostsLastRow, standIns := [], harness := (true, "bac923f827cd166fe1c661641a64035cffa264d14ff2ca5c76bdf830631e02ce"), looks := false }, kinds := [], alts := [], laidByText := true, laidKinds := [.data], laidTests := true, laidLooks := .later }
def HostsLastCardSaid : Prop := Claim7.holds Tryd.pinned (.plain (OpenSpec.ofChange hostsLastSpec)) hostsLastCard

/-- THE TIED CARD OF 'sennitlaw19.HostsAges'. -/
def hostsAgesCard : Claim7 := { stood := { row := hostsAgesRow, standIns := [], harness := (true, "bac923f827cd166fe1c661641a64035cffa264d14ff2ca5c76bdf830631e02ce"), looks := false }, kinds := [], alts := [], laidByText := true, laidKinds := [.data], laidTests := true, laidLooks := .later }
def HostsAgesCardSaid : Prop := Claim7.holds Tryd.pinned (.plain (OpenSpec.ofChange hostsAgesSpec)) hostsAgesCard

/-- THE SECOND FORM's CARD OF 'sennitlaw25.ModesAny'. -/
def modesAnyUptoCard : Claim7 := { stood := { row := modesAnyUptoRow, standIns := [], harness := (true, "bac923f827cd166fe1c661641a64035cffa264d14ff2ca5c76bdf830631e02ce"), looks := false }, kinds := [], alts := [], laidByText := true, laidKinds := [.data, .data], laidTests := true, laidLooks := .later }
def ModesAnyUptoCardSaid : Prop := Claim7.holds Tryd.pinned (.plain (OpenSpec.upto modesAnySpec)) modesAnyUptoCard

/-- THE SECOND FORM's CARD OF 'sennitlaw25.ModesTotal'. -/
def modesTotalUptoCard : Claim7 := { stood := { row := modesTotalUptoRow, standIns := [], harness := (true, "bac923f827cd166fe1c661641a64035cffa264d14ff2ca5c76bdf830631e02ce"), looks := false }, kinds := [], alts := [], laidByText := true, laidKinds := [.data, .data], laidTests := true, laidLooks := .later }
def ModesTotalUptoCardSaid : Prop := Claim7.holds Tryd.pinned (.plain (OpenSpec.upto modesTotalSpec)) modesTotalUptoCard

/-- THE SECOND FORM's CARD OF 'sennitlaw25.ModesWorse'. -/
def modesWorseUptoCard : Claim7 := { stood := { row := modesWorseUptoRow, standIns := [], harness := (true, "bac923f827cd166fe1c661641a64035cffa264d14ff2ca5c76bdf830631e02ce"), looks := false }, kinds := [], alts := [], laidByText := true, laidKinds := [.data, .data], laidTests := true, laidLooks := .later }
def ModesWorseUptoCardSaid : Prop := Claim7.holds Tryd.pinned (.plain (OpenSpec.upto modesWorseSpec)) modesWorseUptoCard

/-- THE SECOND FORM's CARD OF 'sennitlaw04.ConfigsNew'. -/
def configsNewUptoCard : Claim7 := { stood := { row := configsNewUptoRow, standIns := [], harness := (true, "bac923f827cd166fe1c661641a64035cffa264d14ff2ca5c76bdf830631e02ce"), looks := false }, kinds := [], alts := [], laidByText := true, laidKinds := [.data], laidTests := true, laidLooks := .later }
def ConfigsNewUptoCardSaid : Prop := Claim7.holds Tryd.pinned (.plain (OpenSpec.upto configsNewSpec)) configsNewUptoCard

/-- THE SECOND FORM's CARD OF 'sennitlaw04.ConfigsTurned'. -/
def configsTurnedUptoCard : Claim7 := { stood := { row := configsTurnedUptoRow, standIns := [], harness := (true, "bac923f827cd166fe1c661641a64035cffa264d14ff2ca5c76bdf830631e02ce"), looks := false }, kinds := [], alts := [], laidByText := true, laidKinds := [.data], laidTests := true, laidLooks := .later }
def ConfigsTurnedUptoCardSaid : Prop := Claim7.holds Tryd.pinned (.plain (OpenSpec.upto configsTurnedSpec)) configsTurnedUptoCard

/-- THE SECOND FORM's CARD OF 'sennitlaw04.ConfigsEdges'. -/
def configsEdgesUptoCard : Claim7 := { stood := { row := configsEdgesUptoRow, standIns := [], harness := (true, "bac923f827cd166fe1c661641a64035cffa264d14ff2ca5c76bdf830631e02ce"), looks := false }, kinds := [], alts := [], laidByText := true, laidKinds := [.data], laidTests := true, laidLooks := .later }
def ConfigsEdgesUptoCardSaid : Prop := Claim7.holds Tryd.pinned (.plain (OpenSpec.upto configsEdgesSpec)) configsEdgesUptoCard

/-- THE SECOND FORM's CARD OF 'sennitlaw04.ConfigsVoid'. -/
def configsVoidUptoCard : Claim7 := { stood := { row := configsVoidUptoRow, standIns := [], harness := (true, "bac923f827cd166fe1c661641a64035cffa264d14ff2ca5c76bdf830631e02ce"), looks := false }, kinds := [], alts := [], laidByText := true, laidKinds := [.data], laidTests := true, laidLooks := .later }
def ConfigsVoidUptoCardSaid : Prop := Claim7.holds Tryd.pinned (.plain (OpenSpec.upto configsVoidSpec)) configsVoidUptoCard

/-- THE SECOND FORM's CARD OF 'sennitlaw04.ConfigsHalves'. -/
def configsHalvesUptoCard : Claim7 := { stood := { row := configsHalvesUptoRow, standIns := [], harness := (true, "bac923f827cd166fe1c661641a64035cffa264d14ff2ca5c76bdf830631e02ce"), looks := false }, kinds := [], alts := [], laidByText := true, laidKinds := [.data], laidTests := true, laidLooks := .later }
def ConfigsHalvesUptoCardSaid : Prop := Claim7.holds Tryd.pinned (.plain (OpenSpec.upto configsHalvesSpec)) configsHalvesUptoCard

/-- THE SECOND FORM's CARD OF 'sennitlaw10.WindowsOver'. -/
def windowsOverUptoCard : Claim7 := { stood := { row := windowsOverUptoRow, standIns := [], harness := (true, "bac923f827cd166fe1c661641a64035cffa264d14ff2ca5c76bdf830631e02ce"), looks := false }, kinds := [], alts := [], laidByText := true, laidKinds := [.data, .data], laidTests := true, laidLooks := .later }
def WindowsOverUptoCardSaid : Prop := Claim7.holds Tryd.pinned (.plain (OpenSpec.upto windowsOverSpec)) windowsOverUptoCard

/-- THE SECOND FORM's CARD OF 'sennitlaw10.WindowsOf'. -/
def windowsOfUptoCard : Claim7 := { stood := { row := windowsOfUptoRow, standIns := [], harness := (true, "bac923f827cd166fe1c661641a64035cffa264d14ff2ca5c76bdf830631e02ce"), looks := false }, kinds := [], alts := [], laidByText := true, laidKinds := [.data, .data], laidTests := true, laidLooks := .later }
def WindowsOfUptoCardSaid : Prop := Claim7.holds Tryd.pinned (.plain (OpenSpec.upto windowsOfSpec)) windowsOfUptoCard

/-- THE SECOND FORM's CARD OF 'sennitlaw10.WindowsVoid'. -/
def windowsVoidUptoCard : Claim7 := { stood := { row := windowsVoidUptoRow, standIns := [], harness := (true, "bac923f827cd166fe1c661641a64035cffa264d14ff2ca5c76bdf830631e02ce"), looks := false }, kinds := [], alts := [], laidByText := true, laidKinds := [.data, .data], laidTests := true, laidLooks := .later }
def WindowsVoidUptoCardSaid : Prop := Claim7.holds Tryd.pinned (.plain (OpenSpec.upto windowsVoidSpec)) windowsVoidUptoCard

/-- THE SECOND FORM's CARD OF 'sennitlaw10.WindowsGuards'. -/
def windowsGuardsUptoCard : Claim7 := { stood := { row := windowsGuardsUptoRow, standIns := [], harness := (true, "bac923f827cd166fe1c661641a64035cffa264d14ff2ca5c76bdf830631e02ce"), looks := false }, kinds := [], alts := [], laidByText := true, laidKinds := [.data, .data], laidTests := true, laidLooks := .later }
def WindowsGuardsUptoCardSaid : Prop := Claim7.holds Tryd.pinned (.plain (OpenSpec.upto windowsGuardsSpec)) windowsGuardsUptoCard

/-- THE SECOND FORM's CARD OF 'sennitlaw10.WindowsMeet'. -/
def windowsMeetUptoCard : Claim7 := { stood := { row := windowsMeetUptoRow, standIns := [], harness := (true, "bac923f827cd166fe1c661641a64035cffa264d14ff2ca5c76bdf830631e02ce"), looks := false }, kinds := [], alts := [], laidByText := true, laidKinds := [.data, .data], laidTests := true, laidLooks := .later }
def WindowsMeetUptoCardSaid : Prop := Claim7.holds Tryd.pinned (.plain (OpenSpec.upto windowsMeetSpec)) windowsMeetUptoCard

/-- THE SECOND FORM's CARD OF 'sennitlaw19.HostsOffer'. -/
def hostsOfferUptoCard : Claim7 := { stood := { row := hostsOfferUptoRow, standIns := [], harness := (true, "bac923f827cd166fe1c661641a64035cffa264d14ff2ca5c76bdf830631e02ce"), looks := false }, kinds := [], alts := [], laidByText := true, laidKinds := [.data], laidTests := true, laidLooks := .later }
def HostsOfferUptoCardSaid : Prop := Claim7.holds Tryd.pinned (.plain (OpenSpec.upto hostsOfferSpec)) hostsOfferUptoCard

/-- THE SECOND FORM's CARD OF 'sennitlaw19.HostsBox'. -/
def hostsBoxUptoCard : Claim7 := { stood := { row := hostsBoxUptoRow, standIns := [], harness := (true, "bac923f827cd166fe1c661641a64035cffa264d14ff2ca5c76bdf830631e02ce"), looks := false }, kinds := [], alts := [], laidByText := true, laidKinds := [.data], laidTests := true, laidLooks := .later }
def HostsBoxUptoCardSaid : Prop := Claim7.holds Tryd.pinned (.plain (OpenSpec.upto hostsBoxSpec)) hostsBoxUptoCard

/-- THE SECOND FORM's CARD OF 'sennitlaw19.HostsVoid'. -/
def hostsVoidUptoCard : Claim7 := { stood := { row := hostsVoidUptoRow, standIns := [], harness := (true, "bac923f827cd166fe1c661641a64035cffa264d14ff2ca5c76bdf830631e02ce"), looks := false }, kinds := [], alts := [], laidByText := true, laidKinds := [.data], laidTests := true, laidLooks := .later }
def HostsVoidUptoCardSaid : Prop := Claim7.holds Tryd.pinned (.plain (OpenSpec.upto hostsVoidSpec)) hostsVoidUptoCard

/-- THE SECOND FORM's CARD OF 'sennitlaw19.HostsLast'. -/
def hostsLastUptoCard : Claim7 := { stood := { row := hostsLastUptoRow, standIns := [], harness := (true, "bac923f827cd166fe1c661641a64035cffa264d14ff2ca5c76bdf830631e02ce"), looks := false }, kinds := [], alts := [], laidByText := true, laidKinds := [.data], laidTests := true, laidLooks := .later }
def HostsLastUptoCardSaid : Prop := Claim7.holds Tryd.pinned (.plain (OpenSpec.upto hostsLastSpec)) hostsLastUptoCard

/-- THE SECOND FORM's CARD OF 'sennitlaw19.HostsAges'. -/
def hostsAgesUptoCard : Claim7 := { stood := { row := hostsAgesUptoRow, standIns := [], harness := (true, "bac923f827cd166fe1c661641a64035cffa264d14ff2ca5c76bdf830631e02ce"), looks := false }, kinds := [], alts := [], laidByText := true, laidKinds := [.data], laidTests := true, laidLooks := .later }
def HostsAgesUptoCardSaid : Prop := Claim7.holds Tryd.pinned (.plain (OpenSpec.upto hostsAgesSpec)) hostsAgesUptoCard
end Rows
end Go.Proofs.YtibncdkekceokaaDoor
