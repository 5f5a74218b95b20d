/-
  DERIVED. GIVEN WITH THE SEED: THE CARDS: each row of YtofopjkjmhepeaaDoorRows.lean that lists a variable, with what it lists TIED to the program's text (the seventh form; the later family's looks); each row that meets fmt, with fmt's text TOLD by the authors' own Lean function (tested against real Go, not proved from fmt's source: count such statements apart). THE CARD IS WHAT COUNTS. Prove the row's statement (the work); the ties are given (YtofopjkjmhepeaaDoorTie.lean); close each card by the builder's one call (the guide's Derived/Test/ToyasCard.lean, 'card_holds'). Laid BY PROGRAM, IN A SANDBOX (cutbox-door.mjs). By AI agents, Wed Nov 11 2026. No macro, syntax, notation, axiom, sorry.
-/
import Derived.Test.YtofopjkjmhepeaaDoorRows
import GoSem.ClaimSeven
namespace Go.Proofs.YtofopjkjmhepeaaDoor
namespace Rows

/-- THE TIED CARD OF 'ragpickerlaw10.TablesFull'. -/
def tablesFullCard : Claim7 := { stood := { row := tablesFullRow, standIns := [], harness := (true, "6edbeff121bf7264b12745c36a32a6227e38a7cf0433ee1fb0e39c30d03aa970"), looks := false }, kinds := [], alts := [], laidByText := true, laidKinds := [.data], laidTests := true, laidLooks := .later }
def TablesFullCardSaid : Prop := Claim7.holds Tryd.pinned (.plain (OpenSpec.ofChange tablesFullSpec)) tablesFullCard

/-- THE TIED CARD OF 'ragpickerlaw10.TablesInside'. -/
def tablesInsideCard : Claim7 := { stood := { row := tablesInsideRow, standIns := [], harness := (true, "6edbeff121bf7264b12745c36a32a6227e38a7cf0433ee1fb0e39c30d03aa970"), looks := false }, kinds := [], alts := [], laidByText := true, laidKinds := [.data], laidTests := true, laidLooks := .later }
def TablesInsideCardSaid : Prop := Claim7.holds Tryd.pinned (.plain (OpenSpec.ofChange tablesInsideSpec)) tablesInsideCard

/-- THE TIED CARD OF 'ragpickerlaw10.TablesVoid'. -/
def tablesVoidCard : Claim7 := { stood := { row := tablesVoidRow, standIns := [], harness := (true, "6edbeff121bf7264b12745c36a32a6227e38a7cf0433ee1fb0e39c30d03aa970"), looks := false }, kinds := [], alts := [], laidByText := true, laidKinds := [.data], laidTests := true, laidLooks := .later }
def TablesVoidCardSaid : Prop := Claim7.holds Tryd.pinned (.plain (OpenSpec.ofChange tablesVoidSpec)) tablesVoidCard

/-- THE TIED CARD OF 'ragpickerlaw11.BlocksMost'. -/
def blocksMostCard : Claim7 := { stood := { row := blocksMostRow, standIns := [], harness := (true, "6edbeff121bf7264b12745c36a32a6227e38a7cf0433ee1fb0e39c30d03aa970"), looks := false }, kinds := [], alts := [], laidByText := true, laidKinds := [.data], laidTests := true, laidLooks := .later }
def BlocksMostCardSaid : Prop := Claim7.holds Tryd.pinned (.plain (OpenSpec.ofChange blocksMostSpec)) blocksMostCard

/-- THE TIED CARD OF 'ragpickerlaw11.BlocksVoid'. -/
def blocksVoidCard : Claim7 := { stood := { row := blocksVoidRow, standIns := [], harness := (true, "6edbeff121bf7264b12745c36a32a6227e38a7cf0433ee1fb0e39c30d03aa970"), looks := false }, kinds := [], alts := [], laidByText := true, laidKinds := [.data], laidTests := true, laidLooks := .later }
def BlocksVoidCardSaid : Prop := Claim7.holds Tryd.pinned (.plain (OpenSpec.ofChange blocksVoidSpec)) blocksVoidCard

/-- THE TIED CARD OF 'ragpickerlaw11.BlocksEmpty'. -/
def blocksEmptyCard : Claim7 := { stood := { row := blocksEmptyRow, standIns := [], harness := (true, "6edbeff121bf7264b12745c36a32a6227e38a7cf0433ee1fb0e39c30d03aa970"), looks := false }, kinds := [], alts := [], laidByText := true, laidKinds := [.data], laidTests := true, laidLooks := .later }
def BlocksEmptyCardSaid : Prop := Claim7.holds Tryd.pinned (.plain (OpenSpec.ofChange blocksEmptySpec)) blocksEmptyCard

/-- THE TIED CARD OF 'ragpickerlaw11.BlocksTable'. -/
def blocksTableCard : Claim7 := { stood := { row := blocksTableRow, standIns := [], harness := (true, "6edbeff121bf7264b12745c36a32a6227e38a7cf0433ee1fb0e39c30d03aa970"), looks := false }, kinds := [], alts := [], laidByText := true, laidKinds := [.data], laidTests := true, laidLooks := .later }
def BlocksTableCardSaid : Prop := Claim7.holds Tryd.pinned (.plain (OpenSpec.ofChange blocksTableSpec)) blocksTableCard

/-- THE SECOND FORM's CARD OF 'ragpickerlaw10.TablesFull'. -/
def tablesFullUptoCard : Claim7 := { stood := { row := tablesFullUptoRow, standIns := [], harness := (true, "6edbeff121bf7264b12745c36a32a6227e38a7cf0433ee1fb0e39c30d03aa970"), looks := false }, kinds := [], alts := [], laidByText := true, laidKinds := [.data], laidTests := true, laidLooks := .later }
def TablesFullUptoCardSaid : Prop := Claim7.holds Tryd.pinned (.plain (OpenSpec.upto tablesFullSpec)) tablesFullUptoCard

/-- THE SECOND FORM's CARD OF 'ragpickerlaw10.TablesInside'. -/
def tablesInsideUptoCard : Claim7 := { stood := { row := tablesInsideUptoRow, standIns := [], harness := (true, "6edbeff121bf7264b12745c36a32a6227e38a7cf0433ee1fb0e39c30d03aa970"), looks := false }, kinds := [], alts := [], laidByText := true, laidKinds := [.data], laidTests := true, laidLooks := .later }
def TablesInsideUptoCardSaid : Prop := Claim7.holds Tryd.pinned (.plain (OpenSpec.upto tablesInsideSpec)) tablesInsideUptoCard

/-- THE SECOND FORM's CARD OF 'ragpickerlaw10.TablesVoid'. -/
def tablesVoidUptoCard : Claim7 := { stood := { row := tablesVoidUptoRow, standIns := [], harness := (true, "6edbeff121bf7264b12745c36a32a6227e38a7cf0433ee1fb0e39c30d03aa970"), looks := false }, kinds := [], alts := [], laidByText := true, laidKinds := [.data], laidTests := true, laidLooks := .later }
def TablesVoidUptoCardSaid : Prop := Claim7.holds Tryd.pinned (.plain (OpenSpec.upto tablesVoidSpec)) tablesVoidUptoCard

/-- THE SECOND FORM's CARD OF 'ragpickerlaw11.BlocksMost'. -/
def blocksMostUptoCard : Claim7 := { stood := { row := blocksMostUptoRow, standIns := [], harness := (true, "6edbeff121bf7264b12745c36a32a6227e38a7cf0433ee1fb0e39c30d03aa970"), looks := false }, kinds := [], alts := [], laidByText := true, laidKinds := [.data], laidTests := true, laidLooks := .later }
def BlocksMostUptoCardSaid : Prop := Claim7.holds Tryd.pinned (.plain (OpenSpec.upto blocksMostSpec)) blocksMostUptoCard

/-- THE SECOND FORM's CARD OF 'ragpickerlaw11.BlocksVoid'. -/
def blocksVoidUptoCard : Claim7 := { stood := { row := blocksVoidUptoRow, standIns := [], harness := (true, "6edbeff121bf7264b12745c36a32a6227e38a7cf0433ee1fb0e39c30d03aa970"), looks := false }, kinds := [], alts := [], laidByText := true, laidKinds := [.data], laidTests := true, laidLooks := .later }
def BlocksVoidUptoCardSaid : Prop := Claim7.holds Tryd.pinned (.plain (OpenSpec.upto blocksVoidSpec)) blocksVoidUptoCard

/-- THE SECOND FORM's CARD OF 'ragpickerlaw11.BlocksEmpty'. -/
def blocksEmptyUptoCard : Claim7 := { stood := { row := blocksEmptyUptoRow, standIns := [], harness := (true, "6edbeff121bf7264b12745c36a32a6227e38a7cf0433ee1fb0e39c30d03aa970"), looks := false }, kinds := [], alts := [], laidByText := true, laidKinds := [.data], laidTests := true, laidLooks := .later }
def BlocksEmptyUptoCardSaid : Prop := Claim7.holds Tryd.pinned (.plain (OpenSpec.upto blocksEmptySpec)) blocksEmptyUptoCard

/-- THE SECOND FORM's CARD OF 'ragpickerlaw11.BlocksTable'. -/
def blocksTableUptoCard : Claim7 := { stood := { row := blocksTableUptoRow, standIns := [], harness := (true, "6edbeff121bf7264b12745c36a32a6227e38a7cf0433ee1fb0e39c30d03aa970"), looks := false }, kinds := [], alts := [], laidByText := true, laidKinds := [.data], laidTests := true, laidLooks := .later }
def BlocksTableUptoCardSaid : Prop := Claim7.holds Tryd.pinned (.plain (OpenSpec.upto blocksTableSpec)) blocksTableUptoCard
end Rows
end Go.Proofs.YtofopjkjmhepeaaDoor
