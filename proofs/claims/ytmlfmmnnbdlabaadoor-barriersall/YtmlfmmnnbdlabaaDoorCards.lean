/-
  DERIVED. GIVEN WITH THE SEED: THE CARDS: each row of YtmlfmmnnbdlabaaDoorRows.lean that lists a variable, with what it lists TIED to the program's text (the seventh form; the later family's looks); each row that meets fmt, with fmt's text TOLD by the authors' own Lean function (tested against real Go, not proved from fmt's source: count such statements apart). THE CARD IS WHAT COUNTS. Prove the row's statement (the work); the ties are given (YtmlfmmnnbdlabaaDoorTie.lean); close each card by the builder's one call (the guide's Derived/Test/ToyasCard.lean, 'card_holds'). Laid BY PROGRAM, IN A SANDBOX (cutbox-door.mjs). By AI agents, Wed Nov 11 2026. No macro, syntax, notation, axiom, sorry.
-/
import Derived.Test.YtmlfmmnnbdlabaaDoorRows
import GoSem.ClaimSeven
namespace Go.Proofs.YtmlfmmnnbdlabaaDoor
namespace Rows

/-- THE TIED CARD OF 'ragpickerlaw22.BarriersPlay'. -/
def barriersPlayCard : Claim7 := { stood := { row := barriersPlayRow, standIns := [], harness := (true, "aef9cb4274a300044c2e982b331af58232ab700c6782841032cdc684f6eff798"), looks := false }, kinds := [], alts := [], laidByText := true, laidKinds := [.data], laidTests := true, laidLooks := .later }
def BarriersPlayCardSaid : Prop := Claim7.holds Tryd.pinned (.plain (OpenSpec.ofChange barriersPlaySpec)) barriersPlayCard

/-- THE TIED CARD OF 'ragpickerlaw22.BarriersAll'. -/
def barriersAllCard : Claim7 := { stood := { row := barriersAllRow, standIns := [], harness := (true, "aef9cb4274a300044c2e982b331af58232ab700c6782841032cdc684f6eff798"), looks := false }, kinds := [], alts := [], laidByText := true, laidKinds := [.data], laidTests := true, laidLooks := .later }
def BarriersAllCardSaid : Prop := Claim7.holds Tryd.pinned (.plain (OpenSpec.ofChange barriersAllSpec)) barriersAllCard

/-- THE SECOND FORM's CARD OF 'ragpickerlaw22.BarriersPlay'. -/
def barriersPlayUptoCard : Claim7 := { stood := { row := barriersPlayUptoRow, standIns := [], harness := (true, "aef9cb4274a300044c2e982b331af58232ab700c6782841032cdc684f6eff798"), looks := false }, kinds := [], alts := [], laidByText := true, laidKinds := [.data], laidTests := true, laidLooks := .later }
def BarriersPlayUptoCardSaid : Prop := Claim7.holds Tryd.pinned (.plain (OpenSpec.upto barriersPlaySpec)) barriersPlayUptoCard

/-- THE SECOND FORM's CARD OF 'ragpickerlaw22.BarriersAll'. -/
def barriersAllUptoCard : Claim7 := { stood := { row := barriersAllUptoRow, standIns := [], harness := (true, "aef9cb4274a300044c2e982b331af58232ab700c6782841032cdc684f6eff798"), looks := false }, kinds := [], alts := [], laidByText := true, laidKinds := [.data], laidTests := true, laidLooks := .later }
def BarriersAllUptoCardSaid : Prop := Claim7.holds Tryd.pinned (.plain (OpenSpec.upto barriersAllSpec)) barriersAllUptoCard
end Rows
end Go.Proofs.YtmlfmmnnbdlabaaDoor
