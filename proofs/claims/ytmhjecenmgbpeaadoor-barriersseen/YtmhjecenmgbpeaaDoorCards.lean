/-
  DERIVED. GIVEN WITH THE SEED: THE CARDS: each row of YtmhjecenmgbpeaaDoorRows.lean that lists a variable, with what it lists TIED to the program's text (the seventh form; the later family's looks); each row that meets fmt, with fmt's text TOLD by the authors' own Lean function (tested against real Go, not proved from fmt's source: count such statements apart). THE CARD IS WHAT COUNTS. Prove the row's statement (the work); the ties are given (YtmhjecenmgbpeaaDoorTie.lean); close each card by the builder's one call (the guide's Derived/Test/ToyasCard.lean, 'card_holds'). Laid BY PROGRAM, IN A SANDBOX (cutbox-door.mjs). By AI agents, Wed Nov 11 2026. No macro, syntax, notation, axiom, sorry.
-/
import Derived.Test.YtmhjecenmgbpeaaDoorRows
import GoSem.ClaimSeven
namespace Go.Proofs.YtmhjecenmgbpeaaDoor
namespace Rows

/-- THE TIED CARD OF 'ragpickerlaw22.BarriersSeen'. -/
def barriersSeenCard : Claim7 := { stood := { row := barriersSeenRow, standIns := [], harness := (true, "ef2eaec28fe1a934e571bfe973e4cc9daa69c60473e0ffa5b6323df8e3a6cc3b"), looks := true }, kinds := [], alts := [], laidByText := true, laidKinds := [.data], laidTests := true, laidLooks := .later }
def BarriersSeenCardSaid : Prop := Claim7.holds Tryd.pinned (.plain (OpenSpec.ofChange barriersSeenSpec)) barriersSeenCard

/-- THE TIED CARD OF 'ragpickerlaw07.FreesStack'. -/
def freesStackCard : Claim7 := { stood := { row := freesStackRow, standIns := [], harness := (true, "ef2eaec28fe1a934e571bfe973e4cc9daa69c60473e0ffa5b6323df8e3a6cc3b"), looks := true }, kinds := [], alts := [], laidByText := true, laidKinds := [.data], laidTests := true, laidLooks := .later }
def FreesStackCardSaid : Prop := Claim7.holds Tryd.pinned (.plain (OpenSpec.ofChange freesStackSpec)) freesStackCard

/-- THE TIED CARD OF 'ragpickerlaw08.AllocsVoid'. -/
def allocsVoidCard : Claim7 := { stood := { row := allocsVoidRow, standIns := [], harness := (true, "ef2eaec28fe1a934e571bfe973e4cc9daa69c60473e0ffa5b6323df8e3a6cc3b"), looks := true }, kinds := [], alts := [], laidByText := true, laidKinds := [.data], laidTests := true, laidLooks := .later }
def AllocsVoidCardSaid : Prop := Claim7.holds Tryd.pinned (.plain (OpenSpec.ofChange allocsVoidSpec)) allocsVoidCard

/-- THE TIED CARD OF 'ragpickerlaw08.AllocsRound'. -/
def allocsRoundCard : Claim7 := { stood := { row := allocsRoundRow, standIns := [], harness := (true, "ef2eaec28fe1a934e571bfe973e4cc9daa69c60473e0ffa5b6323df8e3a6cc3b"), looks := true }, kinds := [], alts := [], laidByText := true, laidKinds := [.data], laidTests := true, laidLooks := .later }
def AllocsRoundCardSaid : Prop := Claim7.holds Tryd.pinned (.plain (OpenSpec.ofChange allocsRoundSpec)) allocsRoundCard

/-- THE TIED CARD OF 'ragpickerlaw10.TablesInside'. -/
def tablesInsideCard : Claim7 := { stood := { row := tablesInsideRow, standIns := [], harness := (true, "ef2eaec28fe1a934e571bfe973e4cc9daa69c60473e0ffa5b6323df8e3a6cc3b"), looks := true }, kinds := [], alts := [], laidByText := true, laidKinds := [.data], laidTests := true, laidLooks := .later }
def TablesInsideCardSaid : Prop := Claim7.holds Tryd.pinned (.plain (OpenSpec.ofChange tablesInsideSpec)) tablesInsideCard

/-- THE TIED CARD OF 'ragpickerlaw12.OrphansVoid'. -/
def orphansVoidCard : Claim7 := { stood := { row := orphansVoidRow, standIns := [], harness := (true, "ef2eaec28fe1a934e571bfe973e4cc9daa69c60473e0ffa5b6323df8e3a6cc3b"), looks := true }, kinds := [], alts := [], laidByText := true, laidKinds := [.data], laidTests := true, laidLooks := .later }
def OrphansVoidCardSaid : Prop := Claim7.holds Tryd.pinned (.plain (OpenSpec.ofChange orphansVoidSpec)) orphansVoidCard

/-- THE SECOND FORM's CARD OF 'ragpickerlaw22.BarriersSeen'. -/
def barriersSeenUptoCard : Claim7 := { stood := { row := barriersSeenUptoRow, standIns := [], harness := (true, "ef2eaec28fe1a934e571bfe973e4cc9daa69c60473e0ffa5b6323df8e3a6cc3b"), looks := true }, kinds := [], alts := [], laidByText := true, laidKinds := [.data], laidTests := true, laidLooks := .later }
def BarriersSeenUptoCardSaid : Prop := Claim7.holds Tryd.pinned (.plain (OpenSpec.upto barriersSeenSpec)) barriersSeenUptoCard

/-- THE SECOND FORM's CARD OF 'ragpickerlaw07.FreesStack'. -/
def freesStackUptoCard : Claim7 := { stood := { row := freesStackUptoRow, standIns := [], harness := (true, "ef2eaec28fe1a934e571bfe973e4cc9daa69c60473e0ffa5b6323df8e3a6cc3b"), looks := true }, kinds := [], alts := [], laidByText := true, laidKinds := [.data], laidTests := true, laidLooks := .later }
def FreesStackUptoCardSaid : Prop := Claim7.holds Tryd.pinned (.plain (OpenSpec.upto freesStackSpec)) freesStackUptoCard

/-- THE SECOND FORM's CARD OF 'ragpickerlaw08.AllocsVoid'. -/
def allocsVoidUptoCard : Claim7 := { stood := { row := allocsVoidUptoRow, standIns := [], harness := (true, "ef2eaec28fe1a934e571bfe973e4cc9daa69c60473e0ffa5b6323df8e3a6cc3b"), looks := true }, kinds := [], alts := [], laidByText := true, laidKinds := [.data], laidTests := true, laidLooks := .later }
def AllocsVoidUptoCardSaid : Prop := Claim7.holds Tryd.pinned (.plain (OpenSpec.upto allocsVoidSpec)) allocsVoidUptoCard

/-- THE SECOND FORM's CARD OF 'ragpickerlaw08.AllocsRound'. -/
def allocsRoundUptoCard : Claim7 := { stood := { row := allocsRoundUptoRow, standIns := [], harness := (true, "ef2eaec28fe1a934e571bfe973e4cc9daa69c60473e0ffa5b6323df8e3a6cc3b"), looks := true }, kinds := [], alts := [], laidByText := true, laidKinds := [.data], laidTests := true, laidLooks := .later }
def AllocsRoundUptoCardSaid : Prop := Claim7.holds Tryd.pinned (.plain (OpenSpec.upto allocsRoundSpec)) allocsRoundUptoCard

/-- THE SECOND FORM's CARD OF 'ragpickerlaw10.TablesInside'. -/
def tablesInsideUptoCard : Claim7 := { stood := { row := tablesInsideUptoRow, standIns := [], harness := (true, "ef2eaec28fe1a934e571bfe973e4cc9daa69c60473e0ffa5b6323df8e3a6cc3b"), looks := true }, kinds := [], alts := [], laidByText := true, laidKinds := [.data], laidTests := true, laidLooks := .later }
def TablesInsideUptoCardSaid : Prop := Claim7.holds Tryd.pinned (.plain (OpenSpec.upto tablesInsideSpec)) tablesInsideUptoCard

/-- THE SECOND FORM's CARD OF 'ragpickerlaw12.OrphansVoid'. -/
def orphansVoidUptoCard : Claim7 := { stood := { row := orphansVoidUptoRow, standIns := [], harness := (true, "ef2eaec28fe1a934e571bfe973e4cc9daa69c60473e0ffa5b6323df8e3a6cc3b"), looks := true }, kinds := [], alts := [], laidByText := true, laidKinds := [.data], laidTests := true, laidLooks := .later }
def OrphansVoidUptoCardSaid : Prop := Claim7.holds Tryd.pinned (.plain (OpenSpec.upto orphansVoidSpec)) orphansVoidUptoCard
end Rows
end Go.Proofs.YtmhjecenmgbpeaaDoor
