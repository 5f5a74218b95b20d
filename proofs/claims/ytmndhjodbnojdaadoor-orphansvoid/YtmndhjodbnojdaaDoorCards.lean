/-
  DERIVED. GIVEN WITH THE SEED: THE CARDS: each row of YtmndhjodbnojdaaDoorRows.lean that lists a variable, with what it lists TIED to the program's text (the seventh form; the later family's looks); each row that meets fmt, with fmt's text TOLD by the authors' own Lean function (tested against real Go, not proved from fmt's source: count such statements apart). THE CARD IS WHAT COUNTS. Prove the row's statement (the work); the ties are given (YtmndhjodbnojdaaDoorTie.lean); close each card by the builder's one call (the guide's Derived/Test/ToyasCard.lean, 'card_holds'). Laid BY PROGRAM, IN A SANDBOX (cutbox-door.mjs). By AI agents, Wed Nov 11 2026. No macro, syntax, notation, axiom, sorry.
-/
import Derived.Test.YtmndhjodbnojdaaDoorRows
import GoSem.ClaimSeven
namespace Go.Proofs.YtmndhjodbnojdaaDoor
namespace Rows

/-- THE TIED CARD OF 'ragpickerlaw07.FreesStack'. -/
def freesStackCard : Claim7 := { stood := { row := freesStackRow, standIns := [], harness := (true, "9d093ca4ff3baad62d12e56c880e18e1afdaedaaab76b1b6bc1172113a6b8a5e"), looks := true }, kinds := [], alts := [], laidByText := true, laidKinds := [.data], laidTests := true, laidLooks := .later }
def FreesStackCardSaid : Prop := Claim7.holds Tryd.pinned (.plain (OpenSpec.ofChange freesStackSpec)) freesStackCard

/-- THE TIED CARD OF 'ragpickerlaw07.FreesOnce'. -/
def freesOnceCard : Claim7 := { stood := { row := freesOnceRow, standIns := [], harness := (true, "9d093ca4ff3baad62d12e56c880e18e1afdaedaaab76b1b6bc1172113a6b8a5e"), looks := true }, kinds := [], alts := [], laidByText := true, laidKinds := [.data], laidTests := true, laidLooks := .later }
def FreesOnceCardSaid : Prop := Claim7.holds Tryd.pinned (.plain (OpenSpec.ofChange freesOnceSpec)) freesOnceCard

/-- THE TIED CARD OF 'ragpickerlaw10.TablesFull'. -/
def tablesFullCard : Claim7 := { stood := { row := tablesFullRow, standIns := [], harness := (true, "9d093ca4ff3baad62d12e56c880e18e1afdaedaaab76b1b6bc1172113a6b8a5e"), looks := true }, kinds := [], alts := [], laidByText := true, laidKinds := [.data], laidTests := true, laidLooks := .later }
def TablesFullCardSaid : Prop := Claim7.holds Tryd.pinned (.plain (OpenSpec.ofChange tablesFullSpec)) tablesFullCard

/-- THE TIED CARD OF 'ragpickerlaw12.OrphansVoid'. -/
def orphansVoidCard : Claim7 := { stood := { row := orphansVoidRow, standIns := [], harness := (true, "9d093ca4ff3baad62d12e56c880e18e1afdaedaaab76b1b6bc1172113a6b8a5e"), looks := true }, kinds := [], alts := [], laidByText := true, laidKinds := [.data], laidTests := true, laidLooks := .later }
def OrphansVoidCardSaid : Prop := Claim7.holds Tryd.pinned (.plain (OpenSpec.ofChange orphansVoidSpec)) orphansVoidCard

/-- THE TIED CARD OF 'ragpickerlaw12.OrphansOrder'. -/
def orphansOrderCard : Claim7 := { stood := { row := orphansOrderRow, standIns := [], harness := (true, "9d093ca4ff3baad62d12e56c880e18e1afdaedaaab76b1b6bc1172113a6b8a5e"), looks := true }, kinds := [], alts := [], laidByText := true, laidKinds := [.data], laidTests := true, laidLooks := .later }
def OrphansOrderCardSaid : Prop := Claim7.holds Tryd.pinned (.plain (OpenSpec.ofChange orphansOrderSpec)) orphansOrderCard

/-- THE TIED CARD OF 'ragpickerlaw12.OrphansRound'. -/
def orphansRoundCard : Claim7 := { stood := { row := orphansRoundRow, standIns := [], harness := (true, "9d093ca4ff3baad62d12e56c880e18e1afdaedaaab76b1b6bc1172113a6b8a5e"), looks := true }, kinds := [], alts := [], laidByText := true, laidKinds := [.data], laidTests := true, laidLooks := .later }
def OrphansRoundCardSaid : Prop := Claim7.holds Tryd.pinned (.plain (OpenSpec.ofChange orphansRoundSpec)) orphansRoundCard

/-- THE TIED CARD OF 'ragpickerlaw08.AllocsRound'. -/
def allocsRoundCard : Claim7 := { stood := { row := allocsRoundRow, standIns := [], harness := (true, "9d093ca4ff3baad62d12e56c880e18e1afdaedaaab76b1b6bc1172113a6b8a5e"), looks := true }, kinds := [], alts := [], laidByText := true, laidKinds := [.data], laidTests := true, laidLooks := .later }
def AllocsRoundCardSaid : Prop := Claim7.holds Tryd.pinned (.plain (OpenSpec.ofChange allocsRoundSpec)) allocsRoundCard

/-- THE SECOND FORM's CARD OF 'ragpickerlaw07.FreesStack'. -/
def freesStackUptoCard : Claim7 := { stood := { row := freesStackUptoRow, standIns := [], harness := (true, "9d093ca4ff3baad62d12e56c880e18e1afdaedaaab76b1b6bc1172113a6b8a5e"), looks := true }, kinds := [], alts := [], laidByText := true, laidKinds := [.data], laidTests := true, laidLooks := .later }
def FreesStackUptoCardSaid : Prop := Claim7.holds Tryd.pinned (.plain (OpenSpec.upto freesStackSpec)) freesStackUptoCard

/-- THE SECOND FORM's CARD OF 'ragpickerlaw07.FreesOnce'. -/
def freesOnceUptoCard : Claim7 := { stood := { row := freesOnceUptoRow, standIns := [], harness := (true, "9d093ca4ff3baad62d12e56c880e18e1afdaedaaab76b1b6bc1172113a6b8a5e"), looks := true }, kinds := [], alts := [], laidByText := true, laidKinds := [.data], laidTests := true, laidLooks := .later }
def FreesOnceUptoCardSaid : Prop := Claim7.holds Tryd.pinned (.plain (OpenSpec.upto freesOnceSpec)) freesOnceUptoCard

/-- THE SECOND FORM's CARD OF 'ragpickerlaw10.TablesFull'. -/
def tablesFullUptoCard : Claim7 := { stood := { row := tablesFullUptoRow, standIns := [], harness := (true, "9d093ca4ff3baad62d12e56c880e18e1afdaedaaab76b1b6bc1172113a6b8a5e"), looks := true }, kinds := [], alts := [], laidByText := true, laidKinds := [.data], laidTests := true, laidLooks := .later }
def TablesFullUptoCardSaid : Prop := Claim7.holds Tryd.pinned (.plain (OpenSpec.upto tablesFullSpec)) tablesFullUptoCard

/-- THE SECOND FORM's CARD OF 'ragpickerlaw12.OrphansVoid'. -/
def orphansVoidUptoCard : Claim7 := { stood := { row := orphansVoidUptoRow, standIns := [], harness := (true, "9d093ca4ff3baad62d12e56c880e18e1afdaedaaab76b1b6bc1172113a6b8a5e"), looks := true }, kinds := [], alts := [], laidByText := true, laidKinds := [.data], laidTests := true, laidLooks := .later }
def OrphansVoidUptoCardSaid : Prop := Claim7.holds Tryd.pinned (.plain (OpenSpec.upto orphansVoidSpec)) orphansVoidUptoCard

/-- THE SECOND FORM's CARD OF 'ragpickerlaw12.OrphansOrder'. -/
def orphansOrderUptoCard : Claim7 := { stood := { row := orphansOrderUptoRow, standIns := [], harness := (true, "9d093ca4ff3baad62d12e56c880e18e1afdaedaaab76b1b6bc1172113a6b8a5e"), looks := true }, kinds := [], alts := [], laidByText := true, laidKinds := [.data], laidTests := true, laidLooks := .later }
def OrphansOrderUptoCardSaid : Prop := Claim7.holds Tryd.pinned (.plain (OpenSpec.upto orphansOrderSpec)) orphansOrderUptoCard

/-- THE SECOND FORM's CARD OF 'ragpickerlaw12.OrphansRound'. -/
def orphansRoundUptoCard : Claim7 := { stood := { row := orphansRoundUptoRow, standIns := [], harness := (true, "9d093ca4ff3baad62d12e56c880e18e1afdaedaaab76b1b6bc1172113a6b8a5e"), looks := true }, kinds := [], alts := [], laidByText := true, laidKinds := [.data], laidTests := true, laidLooks := .later }
def OrphansRoundUptoCardSaid : Prop := Claim7.holds Tryd.pinned (.plain (OpenSpec.upto orphansRoundSpec)) orphansRoundUptoCard

/-- THE SECOND FORM's CARD OF 'ragpickerlaw08.AllocsRound'. -/
def allocsRoundUptoCard : Claim7 := { stood := { row := allocsRoundUptoRow, standIns := [], harness := (true, "9d093ca4ff3baad62d12e56c880e18e1afdaedaaab76b1b6bc1172113a6b8a5e"), looks := true }, kinds := [], alts := [], laidByText := true, laidKinds := [.data], laidTests := true, laidLooks := .later }
def AllocsRoundUptoCardSaid : Prop := Claim7.holds Tryd.pinned (.plain (OpenSpec.upto allocsRoundSpec)) allocsRoundUptoCard
end Rows
end Go.Proofs.YtmndhjodbnojdaaDoor
