/-
  DERIVED. GIVEN WITH THE SEED: THE CARDS: each row of YtlpcdjhojfopjaaGreatDoorRows.lean that lists a variable, with what it lists TIED to the program's text (the seventh form; the later family's looks); each row that meets fmt, with fmt's text TOLD by the authors' own Lean function (tested against real Go, not proved from fmt's source: count such statements apart). THE CARD IS WHAT COUNTS. Prove the row's statement (the work); the ties are given (YtlpcdjhojfopjaaGreatDoorTie.lean); close each card by the builder's one call (the guide's Derived/Test/ToyasCard.lean, 'card_holds'). Laid BY PROGRAM, IN A SANDBOX (cutbox-door.mjs). By AI agents, Wed Nov 11 2026. No macro, syntax, notation, axiom, sorry.
-/
import Derived.Test.YtlpcdjhojfopjaaGreatDoorRows
import GoSem.ClaimSeven
namespace Go.Proofs.YtlpcdjhojfopjaaGreatDoor
namespace Rows

/-- THE TIED CARD OF 'ragpickerlaw16.HazardsPlay'. -/
def hazardsPlayCard : Claim7 := { stood := { row := hazardsPlayRow, standIns := [], harness := (true, "94b9bb3182a009a6add62c3d84a51b0469b32bbdcb64caa7f0f7accb154555f7"), looks := true }, kinds := [], alts := [], laidByText := true, laidKinds := [.data], laidTests := true, laidLooks := .later }
def HazardsPlayCardSaid : Prop := Claim7.holds Tryz.pinned (.plain (OpenSpec.ofChange hazardsPlaySpec)) hazardsPlayCard

/-- THE TIED CARD OF 'ragpickerlaw11.BlocksPlay'. -/
def blocksPlayCard : Claim7 := { stood := { row := blocksPlayRow, standIns := [], harness := (true, "94b9bb3182a009a6add62c3d84a51b0469b32bbdcb64caa7f0f7accb154555f7"), looks := true }, kinds := [], alts := [], laidByText := true, laidKinds := [.data], laidTests := true, laidLooks := .later }
def BlocksPlayCardSaid : Prop := Claim7.holds Tryz.pinned (.plain (OpenSpec.ofChange blocksPlaySpec)) blocksPlayCard

/-- THE TIED CARD OF 'ragpickerlaw10.TablesPlay'. -/
def tablesPlayCard : Claim7 := { stood := { row := tablesPlayRow, standIns := [], harness := (true, "94b9bb3182a009a6add62c3d84a51b0469b32bbdcb64caa7f0f7accb154555f7"), looks := true }, kinds := [], alts := [], laidByText := true, laidKinds := [.data], laidTests := true, laidLooks := .later }
def TablesPlayCardSaid : Prop := Claim7.holds Tryz.pinned (.plain (OpenSpec.ofChange tablesPlaySpec)) tablesPlayCard

/-- THE TIED CARD OF 'ragpickerlaw08.AllocsPlay'. -/
def allocsPlayCard : Claim7 := { stood := { row := allocsPlayRow, standIns := [], harness := (true, "94b9bb3182a009a6add62c3d84a51b0469b32bbdcb64caa7f0f7accb154555f7"), looks := true }, kinds := [], alts := [], laidByText := true, laidKinds := [.data], laidTests := true, laidLooks := .later }
def AllocsPlayCardSaid : Prop := Claim7.holds Tryz.pinned (.plain (OpenSpec.ofChange allocsPlaySpec)) allocsPlayCard

/-- THE TIED CARD OF 'ragpickerlaw09.GrowsPlay'. -/
def growsPlayCard : Claim7 := { stood := { row := growsPlayRow, standIns := [], harness := (true, "94b9bb3182a009a6add62c3d84a51b0469b32bbdcb64caa7f0f7accb154555f7"), looks := true }, kinds := [], alts := [], laidByText := true, laidKinds := [.data], laidTests := true, laidLooks := .later }
def GrowsPlayCardSaid : Prop := Claim7.holds Tryz.pinned (.plain (OpenSpec.ofChange growsPlaySpec)) growsPlayCard

/-- THE TIED CARD OF 'ragpickerlaw09.GrowsVoid'. -/
def growsVoidCard : Claim7 := { stood := { row := growsVoidRow, standIns := [], harness := (true, "94b9bb3182a009a6add62c3d84a51b0469b32bbdcb64caa7f0f7accb154555f7"), looks := true }, kinds := [], alts := [], laidByText := true, laidKinds := [.data], laidTests := true, laidLooks := .later }
def GrowsVoidCardSaid : Prop := Claim7.holds Tryz.pinned (.plain (OpenSpec.ofChange growsVoidSpec)) growsVoidCard

/-- THE TIED CARD OF 'ragpickerlaw12.OrphansPlay'. -/
def orphansPlayCard : Claim7 := { stood := { row := orphansPlayRow, standIns := [], harness := (true, "94b9bb3182a009a6add62c3d84a51b0469b32bbdcb64caa7f0f7accb154555f7"), looks := true }, kinds := [], alts := [], laidByText := true, laidKinds := [.data], laidTests := true, laidLooks := .later }
def OrphansPlayCardSaid : Prop := Claim7.holds Tryz.pinned (.plain (OpenSpec.ofChange orphansPlaySpec)) orphansPlayCard

/-- THE SECOND FORM's CARD OF 'ragpickerlaw16.HazardsPlay'. -/
def hazardsPlayUptoCard : Claim7 := { stood := { row := hazardsPlayUptoRow, standIns := [], harness := (true, "94b9bb3182a009a6add62c3d84a51b0469b32bbdcb64caa7f0f7accb154555f7"), looks := true }, kinds := [], alts := [], laidByText := true, laidKinds := [.data], laidTests := true, laidLooks := .later }
def HazardsPlayUptoCardSaid : Prop := Claim7.holds Tryz.pinned (.plain (OpenSpec.upto hazardsPlaySpec)) hazardsPlayUptoCard

/-- THE SECOND FORM's CARD OF 'ragpickerlaw11.BlocksPlay'. -/
def blocksPlayUptoCard : Claim7 := { stood := { row := blocksPlayUptoRow, standIns := [], harness := (true, "94b9bb3182a009a6add62c3d84a51b0469b32bbdcb64caa7f0f7accb154555f7"), looks := true }, kinds := [], alts := [], laidByText := true, laidKinds := [.data], laidTests := true, laidLooks := .later }
def BlocksPlayUptoCardSaid : Prop := Claim7.holds Tryz.pinned (.plain (OpenSpec.upto blocksPlaySpec)) blocksPlayUptoCard

/-- THE SECOND FORM's CARD OF 'ragpickerlaw10.TablesPlay'. -/
def tablesPlayUptoCard : Claim7 := { stood := { row := tablesPlayUptoRow, standIns := [], harness := (true, "94b9bb3182a009a6add62c3d84a51b0469b32bbdcb64caa7f0f7accb154555f7"), looks := true }, kinds := [], alts := [], laidByText := true, laidKinds := [.data], laidTests := true, laidLooks := .later }
def TablesPlayUptoCardSaid : Prop := Claim7.holds Tryz.pinned (.plain (OpenSpec.upto tablesPlaySpec)) tablesPlayUptoCard

/-- THE SECOND FORM's CARD OF 'ragpickerlaw08.AllocsPlay'. -/
def allocsPlayUptoCard : Claim7 := { stood := { row := allocsPlayUptoRow, standIns := [], harness := (true, "94b9bb3182a009a6add62c3d84a51b0469b32bbdcb64caa7f0f7accb154555f7"), looks := true }, kinds := [], alts := [], laidByText := true, laidKinds := [.data], laidTests := true, laidLooks := .later }
def AllocsPlayUptoCardSaid : Prop := Claim7.holds Tryz.pinned (.plain (OpenSpec.upto allocsPlaySpec)) allocsPlayUptoCard

/-- THE SECOND FORM's CARD OF 'ragpickerlaw09.GrowsPlay'. -/
def growsPlayUptoCard : Claim7 := { stood := { row := growsPlayUptoRow, standIns := [], harness := (true, "94b9bb3182a009a6add62c3d84a51b0469b32bbdcb64caa7f0f7accb154555f7"), looks := true }, kinds := [], alts := [], laidByText := true, laidKinds := [.data], laidTests := true, laidLooks := .later }
def GrowsPlayUptoCardSaid : Prop := Claim7.holds Tryz.pinned (.plain (OpenSpec.upto growsPlaySpec)) growsPlayUptoCard

/-- THE SECOND FORM's CARD OF 'ragpickerlaw09.GrowsVoid'. -/
def growsVoidUptoCard : Claim7 := { stood := { row := growsVoidUptoRow, standIns := [], harness := (true, "94b9bb3182a009a6add62c3d84a51b0469b32bbdcb64caa7f0f7accb154555f7"), looks := true }, kinds := [], alts := [], laidByText := true, laidKinds := [.data], laidTests := true, laidLooks := .later }
def GrowsVoidUptoCardSaid : Prop := Claim7.holds Tryz.pinned (.plain (OpenSpec.upto growsVoidSpec)) growsVoidUptoCard

/-- THE SECOND FORM's CARD OF 'ragpickerlaw12.OrphansPlay'. -/
def orphansPlayUptoCard : Claim7 := { stood := { row := orphansPlayUptoRow, standIns := [], harness := (true, "94b9bb3182a009a6add62c3d84a51b0469b32bbdcb64caa7f0f7accb154555f7"), looks := true }, kinds := [], alts := [], laidByText := true, laidKinds := [.data], laidTests := true, laidLooks := .later }
def OrphansPlayUptoCardSaid : Prop := Claim7.holds Tryz.pinned (.plain (OpenSpec.upto orphansPlaySpec)) orphansPlayUptoCard
end Rows
end Go.Proofs.YtlpcdjhojfopjaaGreatDoor
