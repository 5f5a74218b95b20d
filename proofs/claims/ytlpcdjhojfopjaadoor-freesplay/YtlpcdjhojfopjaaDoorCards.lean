/-
  DERIVED. GIVEN WITH THE SEED: THE CARDS: each row of YtlpcdjhojfopjaaDoorRows.lean that lists a variable, with what it lists TIED to the program's text (the seventh form; the later family's looks); each row that meets fmt, with fmt's text TOLD by the authors' own Lean function (tested against real Go, not proved from fmt's source: count such statements apart). THE CARD IS WHAT COUNTS. Prove the row's statement (the work); the ties are given (YtlpcdjhojfopjaaDoorTie.lean); close each card by the builder's one call (the guide's Derived/Test/ToyasCard.lean, 'card_holds'). Laid BY PROGRAM, IN A SANDBOX (cutbox-door.mjs). By AI agents, Wed Nov 11 2026. No macro, syntax, notation, axiom, sorry.
-/
import Derived.Test.YtlpcdjhojfopjaaDoorRows
import GoSem.ClaimSeven
namespace Go.Proofs.YtlpcdjhojfopjaaDoor
namespace Rows

/-- THE TIED CARD OF 'ragpickerlaw07.FreesPlay'. -/
def freesPlayCard : Claim7 := { stood := { row := freesPlayRow, standIns := [], harness := (true, "5f74abeffb16dd3425a6449224cbb59dc87c6caf86206be3ef0a1fc8a719a9d8"), looks := true }, kinds := [], alts := [], laidByText := true, laidKinds := [.data], laidTests := true, laidLooks := .later }
def FreesPlayCardSaid : Prop := Claim7.holds Tryd.pinned (.plain (OpenSpec.ofChange freesPlaySpec)) freesPlayCard

/-- THE TIED CARD OF 'ragpickerlaw07.FreesStack'. -/
def freesStackCard : Claim7 := { stood := { row := freesStackRow, standIns := [], harness := (true, "5f74abeffb16dd3425a6449224cbb59dc87c6caf86206be3ef0a1fc8a719a9d8"), looks := true }, kinds := [], alts := [], laidByText := true, laidKinds := [.data], laidTests := true, laidLooks := .later }
def FreesStackCardSaid : Prop := Claim7.holds Tryd.pinned (.plain (OpenSpec.ofChange freesStackSpec)) freesStackCard

/-- THE TIED CARD OF 'ragpickerlaw08.AllocsRound'. -/
def allocsRoundCard : Claim7 := { stood := { row := allocsRoundRow, standIns := [], harness := (true, "5f74abeffb16dd3425a6449224cbb59dc87c6caf86206be3ef0a1fc8a719a9d8"), looks := true }, kinds := [], alts := [], laidByText := true, laidKinds := [.data], laidTests := true, laidLooks := .later }
def AllocsRoundCardSaid : Prop := Claim7.holds Tryd.pinned (.plain (OpenSpec.ofChange allocsRoundSpec)) allocsRoundCard

/-- THE TIED CARD OF 'ragpickerlaw12.OrphansVoid'. -/
def orphansVoidCard : Claim7 := { stood := { row := orphansVoidRow, standIns := [], harness := (true, "5f74abeffb16dd3425a6449224cbb59dc87c6caf86206be3ef0a1fc8a719a9d8"), looks := true }, kinds := [], alts := [], laidByText := true, laidKinds := [.data], laidTests := true, laidLooks := .later }
def OrphansVoidCardSaid : Prop := Claim7.holds Tryd.pinned (.plain (OpenSpec.ofChange orphansVoidSpec)) orphansVoidCard

/-- THE TIED CARD OF 'ragpickerlaw12.OrphansRound'. -/
def orphansRoundCard : Claim7 := { stood := { row := orphansRoundRow, standIns := [], harness := (true, "5f74abeffb16dd3425a6449224cbb59dc87c6caf86206be3ef0a1fc8a719a9d8"), looks := true }, kinds := [], alts := [], laidByText := true, laidKinds := [.data], laidTests := true, laidLooks := .later }
def OrphansRoundCardSaid : Prop := Claim7.holds Tryd.pinned (.plain (OpenSpec.ofChange orphansRoundSpec)) orphansRoundCard

/-- THE SECOND FORM's CARD OF 'ragpickerlaw07.FreesPlay'. -/
def freesPlayUptoCard : Claim7 := { stood := { row := freesPlayUptoRow, standIns := [], harness := (true, "5f74abeffb16dd3425a6449224cbb59dc87c6caf86206be3ef0a1fc8a719a9d8"), looks := true }, kinds := [], alts := [], laidByText := true, laidKinds := [.data], laidTests := true, laidLooks := .later }
def FreesPlayUptoCardSaid : Prop := Claim7.holds Tryd.pinned (.plain (OpenSpec.upto freesPlaySpec)) freesPlayUptoCard

/-- THE SECOND FORM's CARD OF 'ragpickerlaw07.FreesStack'. -/
def freesStackUptoCard : Claim7 := { stood := { row := freesStackUptoRow, standIns := [], harness := (true, "5f74abeffb16dd3425a6449224cbb59dc87c6caf86206be3ef0a1fc8a719a9d8"), looks := true }, kinds := [], alts := [], laidByText := true, laidKinds := [.data], laidTests := true, laidLooks := .later }
def FreesStackUptoCardSaid : Prop := Claim7.holds Tryd.pinned (.plain (OpenSpec.upto freesStackSpec)) freesStackUptoCard

/-- THE SECOND FORM's CARD OF 'ragpickerlaw08.AllocsRound'. -/
def allocsRoundUptoCard : Claim7 := { stood := { row := allocsRoundUptoRow, standIns := [], harness := (true, "5f74abeffb16dd3425a6449224cbb59dc87c6caf86206be3ef0a1fc8a719a9d8"), looks := true }, kinds := [], alts := [], laidByText := true, laidKinds := [.data], laidTests := true, laidLooks := .later }
def AllocsRoundUptoCardSaid : Prop := Claim7.holds Tryd.pinned (.plain (OpenSpec.upto allocsRoundSpec)) allocsRoundUptoCard

/-- THE SECOND FORM's CARD OF 'ragpickerlaw12.OrphansVoid'. -/
def orphansVoidUptoCard : Claim7 := { stood := { row := orphansVoidUptoRow, standIns := [], harness := (true, "5f74abeffb16dd3425a6449224cbb59dc87c6caf86206be3ef0a1fc8a719a9d8"), looks := true }, kinds := [], alts := [], laidByText := true, laidKinds := [.data], laidTests := true, laidLooks := .later }
def OrphansVoidUptoCardSaid : Prop := Claim7.holds Tryd.pinned (.plain (OpenSpec.upto orphansVoidSpec)) orphansVoidUptoCard

/-- THE SECOND FORM's CARD OF 'ragpickerlaw12.OrphansRound'. -/
def orphansRoundUptoCard : Claim7 := { stood := { row := orphansRoundUptoRow, standIns := [], harness := (true, "5f74abeffb16dd3425a6449224cbb59dc87c6caf86206be3ef0a1fc8a719a9d8"), looks := true }, kinds := [], alts := [], laidByText := true, laidKinds := [.data], laidTests := true, laidLooks := .later }
def OrphansRoundUptoCardSaid : Prop := Claim7.holds Tryd.pinned (.plain (OpenSpec.upto orphansRoundSpec)) orphansRoundUptoCard
end Rows
end Go.Proofs.YtlpcdjhojfopjaaDoor
