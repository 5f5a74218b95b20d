/-
  DERIVED. GIVEN WITH THE SEED: THE CARDS: each row of YtncekiahhebmjaaDoorRows.lean that lists a variable, with what it lists TIED to the program's text (the seventh form; the later family's looks); each row that meets fmt, with fmt's text TOLD by the authors' own Lean function (tested against real Go, not proved from fmt's source: count such statements apart). THE CARD IS WHAT COUNTS. Prove the row's statement (the work); the ties are given (YtncekiahhebmjaaDoorTie.lean); close each card by the builder's one call (the guide's Derived/Test/ToyasCard.lean, 'card_holds'). Laid BY PROGRAM, IN A SANDBOX (cutbox-door.mjs). By AI agents, Wed Nov 11 2026. No macro, syntax, notation, axiom, sorry.
-/
import Derived.Test.YtncekiahhebmjaaDoorRows
import GoSem.ClaimSeven
namespace Go.Proofs.YtncekiahhebmjaaDoor
namespace Rows

/-- THE TIED CARD OF 'ragpickerlaw07.FreesVoid'. -/
def freesVoidCard : Claim7 := { stood := { row := freesVoidRow, standIns := [], harness := (true, "6087fe6de40e3398280579fd38c8457d357dd06bedd8578d74f04c9f9c621d92"), looks := true }, kinds := [], alts := [], laidByText := true, laidKinds := [.data], laidTests := true, laidLooks := .later }
def FreesVoidCardSaid : Prop := Claim7.holds Tryd.pinned (.plain (OpenSpec.ofChange freesVoidSpec)) freesVoidCard

/-- THE TIED CARD OF 'ragpickerlaw07.FreesOnce'. -/
def freesOnceCard : Claim7 := { stood := { row := freesOnceRow, standIns := [], harness := (true, "6087fe6de40e3398280579fd38c8457d357dd06bedd8578d74f04c9f9c621d92"), looks := true }, kinds := [], alts := [], laidByText := true, laidKinds := [.data], laidTests := true, laidLooks := .later }
def FreesOnceCardSaid : Prop := Claim7.holds Tryd.pinned (.plain (OpenSpec.ofChange freesOnceSpec)) freesOnceCard

/-- THE TIED CARD OF 'ragpickerlaw07.FreesStack'. -/
def freesStackCard : Claim7 := { stood := { row := freesStackRow, standIns := [], harness := (true, "6087fe6de40e3398280579fd38c8457d357dd06bedd8578d74f04c9f9c621d92"), looks := true }, kinds := [], alts := [], laidByText := true, laidKinds := [.data], laidTests := true, laidLooks := .later }
def FreesStackCardSaid : Prop := Claim7.holds Tryd.pinned (.plain (OpenSpec.ofChange freesStackSpec)) freesStackCard

/-- THE TIED CARD OF 'ragpickerlaw08.AllocsOnce'. -/
def allocsOnceCard : Claim7 := { stood := { row := allocsOnceRow, standIns := [], harness := (true, "6087fe6de40e3398280579fd38c8457d357dd06bedd8578d74f04c9f9c621d92"), looks := true }, kinds := [], alts := [], laidByText := true, laidKinds := [.data], laidTests := true, laidLooks := .later }
def AllocsOnceCardSaid : Prop := Claim7.holds Tryd.pinned (.plain (OpenSpec.ofChange allocsOnceSpec)) allocsOnceCard

/-- THE TIED CARD OF 'ragpickerlaw08.AllocsVoid'. -/
def allocsVoidCard : Claim7 := { stood := { row := allocsVoidRow, standIns := [], harness := (true, "6087fe6de40e3398280579fd38c8457d357dd06bedd8578d74f04c9f9c621d92"), looks := true }, kinds := [], alts := [], laidByText := true, laidKinds := [.data], laidTests := true, laidLooks := .later }
def AllocsVoidCardSaid : Prop := Claim7.holds Tryd.pinned (.plain (OpenSpec.ofChange allocsVoidSpec)) allocsVoidCard

/-- THE TIED CARD OF 'ragpickerlaw08.AllocsRound'. -/
def allocsRoundCard : Claim7 := { stood := { row := allocsRoundRow, standIns := [], harness := (true, "6087fe6de40e3398280579fd38c8457d357dd06bedd8578d74f04c9f9c621d92"), looks := true }, kinds := [], alts := [], laidByText := true, laidKinds := [.data], laidTests := true, laidLooks := .later }
def AllocsRoundCardSaid : Prop := Claim7.holds Tryd.pinned (.plain (OpenSpec.ofChange allocsRoundSpec)) allocsRoundCard

/-- THE TIED CARD OF 'ragpickerlaw07.FreesPlay'. -/
def freesPlayCard : Claim7 := { stood := { row := freesPlayRow, standIns := [], harness := (true, "6087fe6de40e3398280579fd38c8457d357dd06bedd8578d74f04c9f9c621d92"), looks := true }, kinds := [], alts := [], laidByText := true, laidKinds := [.data], laidTests := true, laidLooks := .later }
def FreesPlayCardSaid : Prop := Claim7.holds Tryd.pinned (.plain (OpenSpec.ofChange freesPlaySpec)) freesPlayCard

/-- THE SECOND FORM's CARD OF 'ragpickerlaw07.FreesVoid'. -/
def freesVoidUptoCard : Claim7 := { stood := { row := freesVoidUptoRow, standIns := [], harness := (true, "6087fe6de40e3398280579fd38c8457d357dd06bedd8578d74f04c9f9c621d92"), looks := true }, kinds := [], alts := [], laidByText := true, laidKinds := [.data], laidTests := true, laidLooks := .later }
def FreesVoidUptoCardSaid : Prop := Claim7.holds Tryd.pinned (.plain (OpenSpec.upto freesVoidSpec)) freesVoidUptoCard

/-- THE SECOND FORM's CARD OF 'ragpickerlaw07.FreesOnce'. -/
def freesOnceUptoCard : Claim7 := { stood := { row := freesOnceUptoRow, standIns := [], harness := (true, "6087fe6de40e3398280579fd38c8457d357dd06bedd8578d74f04c9f9c621d92"), looks := true }, kinds := [], alts := [], laidByText := true, laidKinds := [.data], laidTests := true, laidLooks := .later }
def FreesOnceUptoCardSaid : Prop := Claim7.holds Tryd.pinned (.plain (OpenSpec.upto freesOnceSpec)) freesOnceUptoCard

/-- THE SECOND FORM's CARD OF 'ragpickerlaw07.FreesStack'. -/
def freesStackUptoCard : Claim7 := { stood := { row := freesStackUptoRow, standIns := [], harness := (true, "6087fe6de40e3398280579fd38c8457d357dd06bedd8578d74f04c9f9c621d92"), looks := true }, kinds := [], alts := [], laidByText := true, laidKinds := [.data], laidTests := true, laidLooks := .later }
def FreesStackUptoCardSaid : Prop := Claim7.holds Tryd.pinned (.plain (OpenSpec.upto freesStackSpec)) freesStackUptoCard

/-- THE SECOND FORM's CARD OF 'ragpickerlaw08.AllocsOnce'. -/
def allocsOnceUptoCard : Claim7 := { stood := { row := allocsOnceUptoRow, standIns := [], harness := (true, "6087fe6de40e3398280579fd38c8457d357dd06bedd8578d74f04c9f9c621d92"), looks := true }, kinds := [], alts := [], laidByText := true, laidKinds := [.data], laidTests := true, laidLooks := .later }
def AllocsOnceUptoCardSaid : Prop := Claim7.holds Tryd.pinned (.plain (OpenSpec.upto allocsOnceSpec)) allocsOnceUptoCard

/-- THE SECOND FORM's CARD OF 'ragpickerlaw08.AllocsVoid'. -/
def allocsVoidUptoCard : Claim7 := { stood := { row := allocsVoidUptoRow, standIns := [], harness := (true, "6087fe6de40e3398280579fd38c8457d357dd06bedd8578d74f04c9f9c621d92"), looks := true }, kinds := [], alts := [], laidByText := true, laidKinds := [.data], laidTests := true, laidLooks := .later }
def AllocsVoidUptoCardSaid : Prop := Claim7.holds Tryd.pinned (.plain (OpenSpec.upto allocsVoidSpec)) allocsVoidUptoCard

/-- THE SECOND FORM's CARD OF 'ragpickerlaw08.AllocsRound'. -/
def allocsRoundUptoCard : Claim7 := { stood := { row := allocsRoundUptoRow, standIns := [], harness := (true, "6087fe6de40e3398280579fd38c8457d357dd06bedd8578d74f04c9f9c621d92"), looks := true }, kinds := [], alts := [], laidByText := true, laidKinds := [.data], laidTests := true, laidLooks := .later }
def AllocsRoundUptoCardSaid : Prop := Claim7.holds Tryd.pinned (.plain (OpenSpec.upto allocsRoundSpec)) allocsRoundUptoCard

/-- THE SECOND FORM's CARD OF 'ragpickerlaw07.FreesPlay'. -/
def freesPlayUptoCard : Claim7 := { stood := { row := freesPlayUptoRow, standIns := [], harness := (true, "6087fe6de40e3398280579fd38c8457d357dd06bedd8578d74f04c9f9c621d92"), looks := true }, kinds := [], alts := [], laidByText := true, laidKinds := [.data], laidTests := true, laidLooks := .later }
def FreesPlayUptoCardSaid : Prop := Claim7.holds Tryd.pinned (.plain (OpenSpec.upto freesPlaySpec)) freesPlayUptoCard
end Rows
end Go.Proofs.YtncekiahhebmjaaDoor
