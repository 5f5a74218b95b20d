/-
  DERIVED. GIVEN WITH THE SEED: THE CARDS: each row of YtljeiencnpnbkaaDoorRows.lean that lists a variable, with what it lists TIED to the program's text (the seventh form; the later family's looks); each row that meets fmt, with fmt's text TOLD by the authors' own Lean function (tested against real Go, not proved from fmt's source: count such statements apart). THE CARD IS WHAT COUNTS. Prove the row's statement (the work); the ties are given (YtljeiencnpnbkaaDoorTie.lean); close each card by the builder's one call (the guide's Derived/Test/ToyasCard.lean, 'card_holds'). Laid BY PROGRAM, IN A SANDBOX (cutbox-door.mjs). By AI agents, Wed Nov 11 2026. No macro, syntax, notation, axiom, sorry.
-/
import Derived.Test.YtljeiencnpnbkaaDoorRows
import GoSem.ClaimSeven
namespace Go.Proofs.YtljeiencnpnbkaaDoor
namespace Rows

/-- THE TIED CARD OF 'ragpickerlaw16.HazardsMay'. -/
def hazardsMayCard : Claim7 := { stood := { row := hazardsMayRow, standIns := [], harness := (true, "4e0bc994c6d343103b6ab8b907f10e6d685916657cae56a311d4d2d711378d4b"), looks := false }, kinds := [], alts := [], laidByText := true, laidKinds := [.data], laidTests := true, laidLooks := .later }
def HazardsMayCardSaid : Prop := Claim7.holds Tryd.pinned (.plain (OpenSpec.ofChange hazardsMaySpec)) hazardsMayCard

/-- THE TIED CARD OF 'ragpickerlaw16.HazardsHeld'. -/
def hazardsHeldCard : Claim7 := { stood := { row := hazardsHeldRow, standIns := [], harness := (true, "4e0bc994c6d343103b6ab8b907f10e6d685916657cae56a311d4d2d711378d4b"), looks := false }, kinds := [], alts := [], laidByText := true, laidKinds := [.data], laidTests := true, laidLooks := .later }
def HazardsHeldCardSaid : Prop := Claim7.holds Tryd.pinned (.plain (OpenSpec.ofChange hazardsHeldSpec)) hazardsHeldCard

/-- THE TIED CARD OF 'ragpickerlaw16.HazardsKeep'. -/
def hazardsKeepCard : Claim7 := { stood := { row := hazardsKeepRow, standIns := [], harness := (true, "4e0bc994c6d343103b6ab8b907f10e6d685916657cae56a311d4d2d711378d4b"), looks := false }, kinds := [], alts := [], laidByText := true, laidKinds := [.data], laidTests := true, laidLooks := .later }
def HazardsKeepCardSaid : Prop := Claim7.holds Tryd.pinned (.plain (OpenSpec.ofChange hazardsKeepSpec)) hazardsKeepCard

/-- THE TIED CARD OF 'ragpickerlaw11.BlocksTable'. -/
def blocksTableCard : Claim7 := { stood := { row := blocksTableRow, standIns := [], harness := (true, "4e0bc994c6d343103b6ab8b907f10e6d685916657cae56a311d4d2d711378d4b"), looks := false }, kinds := [], alts := [], laidByText := true, laidKinds := [.data], laidTests := true, laidLooks := .later }
def BlocksTableCardSaid : Prop := Claim7.holds Tryd.pinned (.plain (OpenSpec.ofChange blocksTableSpec)) blocksTableCard

/-- THE TIED CARD OF 'ragpickerlaw12.OrphansOnce'. -/
def orphansOnceCard : Claim7 := { stood := { row := orphansOnceRow, standIns := [], harness := (true, "4e0bc994c6d343103b6ab8b907f10e6d685916657cae56a311d4d2d711378d4b"), looks := false }, kinds := [], alts := [], laidByText := true, laidKinds := [.data], laidTests := true, laidLooks := .later }
def OrphansOnceCardSaid : Prop := Claim7.holds Tryd.pinned (.plain (OpenSpec.ofChange orphansOnceSpec)) orphansOnceCard

/-- THE TIED CARD OF 'ragpickerlaw07.FreesOnce'. -/
def freesOnceCard : Claim7 := { stood := { row := freesOnceRow, standIns := [], harness := (true, "4e0bc994c6d343103b6ab8b907f10e6d685916657cae56a311d4d2d711378d4b"), looks := false }, kinds := [], alts := [], laidByText := true, laidKinds := [.data], laidTests := true, laidLooks := .later }
def FreesOnceCardSaid : Prop := Claim7.holds Tryd.pinned (.plain (OpenSpec.ofChange freesOnceSpec)) freesOnceCard

/-- THE SECOND FORM's CARD OF 'ragpickerlaw16.HazardsMay'. -/
def hazardsMayUptoCard : Claim7 := { stood := { row := hazardsMayUptoRow, standIns := [], harness := (true, "4e0bc994c6d343103b6ab8b907f10e6d685916657cae56a311d4d2d711378d4b"), looks := false }, kinds := [], alts := [], laidByText := true, laidKinds := [.data], laidTests := true, laidLooks := .later }
def HazardsMayUptoCardSaid : Prop := Claim7.holds Tryd.pinned (.plain (OpenSpec.upto hazardsMaySpec)) hazardsMayUptoCard

/-- THE SECOND FORM's CARD OF 'ragpickerlaw16.HazardsHeld'. -/
def hazardsHeldUptoCard : Claim7 := { stood := { row := hazardsHeldUptoRow, standIns := [], harness := (true, "4e0bc994c6d343103b6ab8b907f10e6d685916657cae56a311d4d2d711378d4b"), looks := false }, kinds := [], alts := [], laidByText := true, laidKinds := [.data], laidTests := true, laidLooks := .later }
def HazardsHeldUptoCardSaid : Prop := Claim7.holds Tryd.pinned (.plain (OpenSpec.upto hazardsHeldSpec)) hazardsHeldUptoCard

/-- THE SECOND FORM's CARD OF 'ragpickerlaw16.HazardsKeep'. -/
def hazardsKeepUptoCard : Claim7 := { stood := { row := hazardsKeepUptoRow, standIns := [], harness := (true, "4e0bc994c6d343103b6ab8b907f10e6d685916657cae56a311d4d2d711378d4b"), looks := false }, kinds := [], alts := [], laidByText := true, laidKinds := [.data], laidTests := true, laidLooks := .later }
def HazardsKeepUptoCardSaid : Prop := Claim7.holds Tryd.pinned (.plain (OpenSpec.upto hazardsKeepSpec)) hazardsKeepUptoCard

/-- THE SECOND FORM's CARD OF 'ragpickerlaw11.BlocksTable'. -/
def blocksTableUptoCard : Claim7 := { stood := { row := blocksTableUptoRow, standIns := [], harness := (true, "4e0bc994c6d343103b6ab8b907f10e6d685916657cae56a311d4d2d711378d4b"), looks := false }, kinds := [], alts := [], laidByText := true, laidKinds := [.data], laidTests := true, laidLooks := .later }
def BlocksTableUptoCardSaid : Prop := Claim7.holds Tryd.pinned (.plain (OpenSpec.upto blocksTableSpec)) blocksTableUptoCard

/-- THE SECOND FORM's CARD OF 'ragpickerlaw12.OrphansOnce'. -/
def orphansOnceUptoCard : Claim7 := { stood := { row := orphansOnceUptoRow, standIns := [], harness := (true, "4e0bc994c6d343103b6ab8b907f10e6d685916657cae56a311d4d2d711378d4b"), looks := false }, kinds := [], alts := [], laidByText := true, laidKinds := [.data], laidTests := true, laidLooks := .later }
def OrphansOnceUptoCardSaid : Prop := Claim7.holds Tryd.pinned (.plain (OpenSpec.upto orphansOnceSpec)) orphansOnceUptoCard

/-- THE SECOND FORM's CARD OF 'ragpickerlaw07.FreesOnce'. -/
def freesOnceUptoCard : Claim7 := { stood := { row := freesOnceUptoRow, standIns := [], harness := (true, "4e0bc994c6d343103b6ab8b907f10e6d685916657cae56a311d4d2d711378d4b"), looks := false }, kinds := [], alts := [], laidByText := true, laidKinds := [.data], laidTests := true, laidLooks := .later }
def FreesOnceUptoCardSaid : Prop := Claim7.holds Tryd.pinned (.plain (OpenSpec.upto freesOnceSpec)) freesOnceUptoCard
end Rows
end Go.Proofs.YtljeiencnpnbkaaDoor
