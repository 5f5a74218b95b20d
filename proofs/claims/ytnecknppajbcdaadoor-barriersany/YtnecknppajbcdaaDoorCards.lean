/-
  DERIVED. GIVEN WITH THE SEED: THE CARDS: each row of YtnecknppajbcdaaDoorRows.lean that lists a variable, with what it lists TIED to the program's text (the seventh form; the later family's looks); each row that meets fmt, with fmt's text TOLD by the authors' own Lean function (tested against real Go, not proved from fmt's source: count such statements apart). THE CARD IS WHAT COUNTS. Prove the row's statement (the work); the ties are given (YtnecknppajbcdaaDoorTie.lean); close each card by the builder's one call (the guide's Derived/Test/ToyasCard.lean, 'card_holds'). Laid BY PROGRAM, IN A SANDBOX (cutbox-door.mjs). By AI agents, Wed Nov 11 2026. No macro, syntax, notation, axiom, sorry.
-/
import Derived.Test.YtnecknppajbcdaaDoorRows
import GoSem.ClaimSeven
namespace Go.Proofs.YtnecknppajbcdaaDoor
namespace Rows

/-- THE TIED CARD OF 'ragpickerlaw22.BarriersSeen'. -/
def barriersSeenCard : Claim7 := { stood := { row := barriersSeenRow, standIns := [], harness := (true, "1299a5001f40a97bbc59d9d1a806be69460b1a08a46972ce1973bd728232238e"), looks := false }, kinds := [], alts := [], laidByText := true, laidKinds := [.data], laidTests := true, laidLooks := .later }
def BarriersSeenCardSaid : Prop := Claim7.holds Tryd.pinned (.plain (OpenSpec.ofChange barriersSeenSpec)) barriersSeenCard

/-- THE TIED CARD OF 'ragpickerlaw22.BarriersAny'. -/
def barriersAnyCard : Claim7 := { stood := { row := barriersAnyRow, standIns := [], harness := (true, "1299a5001f40a97bbc59d9d1a806be69460b1a08a46972ce1973bd728232238e"), looks := false }, kinds := [], alts := [], laidByText := true, laidKinds := [.data], laidTests := true, laidLooks := .later }
def BarriersAnyCardSaid : Prop := Claim7.holds Tryd.pinned (.plain (OpenSpec.ofChange barriersAnySpec)) barriersAnyCard

/-- THE TIED CARD OF 'ragpickerlaw22.BarriersPlay'. -/
def barriersPlayCard : Claim7 := { stood := { row := barriersPlayRow, standIns := [], harness := (true, "1299a5001f40a97bbc59d9d1a806be69460b1a08a46972ce1973bd728232238e"), looks := false }, kinds := [], alts := [], laidByText := true, laidKinds := [.data], laidTests := true, laidLooks := .later }
def BarriersPlayCardSaid : Prop := Claim7.holds Tryd.pinned (.plain (OpenSpec.ofChange barriersPlaySpec)) barriersPlayCard

/-- THE TIED CARD OF 'ragpickerlaw22.BarriersAll'. -/
def barriersAllCard : Claim7 := { stood := { row := barriersAllRow, standIns := [], harness := (true, "1299a5001f40a97bbc59d9d1a806be69460b1a08a46972ce1973bd728232238e"), looks := false }, kinds := [], alts := [], laidByText := true, laidKinds := [.data], laidTests := true, laidLooks := .later }
def BarriersAllCardSaid : Prop := Claim7.holds Tryd.pinned (.plain (OpenSpec.ofChange barriersAllSpec)) barriersAllCard

/-- THE SECOND FORM's CARD OF 'ragpickerlaw22.BarriersSeen'. -/
def barriersSeenUptoCard : Claim7 := { stood := { row := barriersSeenUptoRow, standIns := [], harness := (true, "1299a5001f40a97bbc59d9d1a806be69460b1a08a46972ce1973bd728232238e"), looks := false }, kinds := [], alts := [], laidByText := true, laidKinds := [.data], laidTests := true, laidLooks := .later }
def BarriersSeenUptoCardSaid : Prop := Claim7.holds Tryd.pinned (.plain (OpenSpec.upto barriersSeenSpec)) barriersSeenUptoCard

/-- THE SECOND FORM's CARD OF 'ragpickerlaw22.BarriersAny'. -/
def barriersAnyUptoCard : Claim7 := { stood := { row := barriersAnyUptoRow, standIns := [], harness := (true, "1299a5001f40a97bbc59d9d1a806be69460b1a08a46972ce1973bd728232238e"), looks := false }, kinds := [], alts := [], laidByText := true, laidKinds := [.data], laidTests := true, laidLooks := .later }
def BarriersAnyUptoCardSaid : Prop := Claim7.holds Tryd.pinned (.plain (OpenSpec.upto barriersAnySpec)) barriersAnyUptoCard

/-- THE SECOND FORM's CARD OF 'ragpickerlaw22.BarriersPlay'. -/
def barriersPlayUptoCard : Claim7 := { stood := { row := barriersPlayUptoRow, standIns := [], harness := (true, "1299a5001f40a97bbc59d9d1a806be69460b1a08a46972ce1973bd728232238e"), looks := false }, kinds := [], alts := [], laidByText := true, laidKinds := [.data], laidTests := true, laidLooks := .later }
def BarriersPlayUptoCardSaid : Prop := Claim7.holds Tryd.pinned (.plain (OpenSpec.upto barriersPlaySpec)) barriersPlayUptoCard

/-- THE SECOND FORM's CARD OF 'ragpickerlaw22.BarriersAll'. -/
def barriersAllUptoCard : Claim7 := { stood := { row := barriersAllUptoRow, standIns := [], harness := (true, "1299a5001f40a97bbc59d9d1a806be69460b1a08a46972ce1973bd728232238e"), looks := false }, kinds := [], alts := [], laidByText := true, laidKinds := [.data], laidTests := true, laidLooks := .later }
def BarriersAllUptoCardSaid : Prop := Claim7.holds Tryd.pinned (.plain (OpenSpec.upto barriersAllSpec)) barriersAllUptoCard
end Rows
end Go.Proofs.YtnecknppajbcdaaDoor
