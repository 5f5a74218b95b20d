/-
  NARROWER THAN 'FOR EVERY INPUT', by the rows' own cells (each row's printed sentence says how): HazardsMay: laid · HazardsHeld: laid · HazardsKeep: laid · BlocksTable: laid · OrphansOnce: laid · FreesOnce: laid.
  DERIVED. THE GIVEN ROWS OF THIS SEAT. 6 by the template 'for every input the law returns true; each argument reads behind the call as it read before'; 0 by the template 'total and deterministic' (their statements: YtljeiencnpnbkaaDoorTotals.lean).
  GIVEN WITH THE SEED: the statements are not yours to turn. If you find one false, say at which input.
  Laid BY PROGRAM, IN A SANDBOX (cutbox-rows.mjs): the forced cells as the released guide's own fill.sh prints them over the translation 4766c2f2f442efc7… (all of the seat's roots in one cut). By AI agents, Wed Nov 11 2026. No macro, syntax, notation, axiom, sorry.
-/
import Derived.Test.YtljeiencnpnbkaaDoorChecked
import GoSem.Claim
import GoSem.ClaimJoined
import GoSem.ClaimMapViews
import Derived.JoinedTies
import Derived.KernelRfl
namespace Go.Proofs.YtljeiencnpnbkaaDoor
/- THE CELL 'sum', in the pinned program and in every row, IS THE sha256 OF THE DUMP (.gsa) THAT YtljeiencnpnbkaaDoorProg.lean LOADS. Nothing in Lean hashes anything: it is a label: what it is worth is what the hold of that sum in a sandbox is worth. -/
noncomputable def Tryd.pinned : Pinned := { name := "ytljeiencnpnbkaadoor", sum := "4766c2f2f442efc7fa4eb71814dd28c55a4b06ba293ce940ceb749fcc6c6365c", checked := Tryd.checked }
namespace Rows
def none {H : Type} : Left H := { results := [], args := [] }

/- WHAT THE LISTED PACKAGE-LEVEL VARIABLES READ AS WHEN THE CALL BEGINS. Each datum BY PROGRAM (the guide's laid-datum.mjs) off the statement by which the dump's own 'gosem.cut.vars' lays the variable. In a bare row this is a premise. The card (YtljeiencnpnbkaaDoorCards.lean) ties it to the program's text. -/
def laid_ragpicker_words_fields {H : Type} : DataW H := .agg [.agg [.lit (.int .u64 0), .lit (.int .u64 16)], .agg [.lit (.int .u64 16), .lit (.int .u64 32)], .agg [.lit (.int .u64 16), .lit (.int .u64 48)], .agg [.lit (.int .u64 0), .lit (.int .u64 3)], .agg [.lit (.int .u64 3), .lit (.int .u64 32)], .agg [.lit (.int .u64 0), .lit (.int .u64 3)], .agg [.lit (.int .u64 3), .lit (.int .u64 3)], .agg [.lit (.int .u64 6), .lit (.int .u64 3)], .agg [.lit (.int .u64 16), .lit (.int .u64 48)], .agg [.lit (.int .u64 0), .lit (.int .u64 32)], .agg [.lit (.int .u64 32), .lit (.int .u64 1)]]

/-- 'ragpickerlaw16.HazardsMay': WHATEVER THE INPUT: true; the input reads as it did. -/
def hazardsMaySpec : ChangeSpec := { name := "hazardsMay", fn := fun _ => fun
  | [d1, d2, d3] => { results := [.lit (.bool true)], args := [d1, d2, d3] }
  | _ => none }
def hazardsMayRow : OpenClaim := { program := "ytljeiencnpnbkaadoor", sum := "4766c2f2f442efc7fa4eb71814dd28c55a4b06ba293ce940ceb749fcc6c6365c", func := "ragpicker/ragpickerlaw16.HazardsMay", spec := "hazardsMay", unfollowed := true, recurses := true, named := ["ragpicker/words.fields"], plainKeys := false, apart := false, laid := [("ragpicker/words.fields", laid_ragpicker_words_fields)] }
def HazardsMaySaid : Prop := hazardsMayRow.holds Tryd.pinned (OpenSpec.ofChange hazardsMaySpec)

/-- ITS FALSE NEIGHBOUR: 'it returns false'. Refute it at one input. -/
def hazardsMayWrong : ChangeSpec := { name := "hazardsMay", fn := fun _ => fun
  | [d1, d2, d3] => { results := [.lit (.bool false)], args := [d1, d2, d3] }
  | _ => none }
def HazardsMayWrongFalsely : Prop := hazardsMayRow.holds Tryd.pinned (OpenSpec.ofChange hazardsMayWrong)

/-- 'ragpickerlaw16.HazardsHeld': WHATEVER THE INPUT: true; the input reads as it did. -/
def hazardsHeldSpec : ChangeSpec := { name := "hazardsHeld", fn := fun _ => fun
  | [d1, d2] => { results := [.lit (.bool true)], args := [d1, d2] }
  | _ => none }
def hazardsHeldRow : OpenClaim := { program := "ytljeiencnpnbkaadoor", sum := "4766c2f2f442efc7fa4eb71814dd28c55a4b06ba293ce940ceb749fcc6c6365c", func := "ragpicker/ragpickerlaw16.HazardsHeld", spec := "hazardsHeld", unfollowed := true, recurses := true, named := ["ragpicker/words.fields"], plainKeys := false, apart := false, laid := [("ragpicker/words.fields", laid_ragpicker_words_fields)] }
def HazardsHeldSaid : Prop := hazardsHeldRow.holds Tryd.pinned (OpenSpec.ofChange hazardsHeldSpec)

/-- ITS FALSE NEIGHBOUR: 'it returns false'. Refute it at one input. -/
def hazardsHeldWrong : ChangeSpec := { name := "hazardsHeld", fn := fun _ => fun
  | [d1, d2] => { results := [.lit (.bool false)], args := [d1, d2] }
  | _ => none }
def HazardsHeldWrongFalsely : Prop := hazardsHeldRow.holds Tryd.pinned (OpenSpec.ofChange hazardsHeldWrong)

/-- 'ragpickerlaw16.HazardsKeep': WHATEVER THE INPUT: true; the input reads as it did. -/
def hazardsKeepSpec : ChangeSpec := { name := "hazardsKeep", fn := fun _ => fun
  | [d] => { results := [.lit (.bool true)], args := [d] }
  | _ => none }
def hazardsKeepRow : OpenClaim := { program := "ytljeiencnpnbkaadoor", sum := "4766c2f2f442efc7fa4eb71814dd28c55a4b06ba293ce940ceb749fcc6c6365c", func := "ragpicker/ragpickerlaw16.HazardsKeep", spec := "hazardsKeep", unfollowed := true, recurses := true, named := ["ragpicker/words.fields"], plainKeys := false, apart := false, laid := [("ragpicker/words.fields", laid_ragpicker_words_fields)] }
def HazardsKeepSaid : Prop := hazardsKeepRow.holds Tryd.pinned (OpenSpec.ofChange hazardsKeepSpec)

/-- ITS FALSE NEIGHBOUR: 'it returns false'. Refute it at one input. -/
def hazardsKeepWrong : ChangeSpec := { name := "hazardsKeep", fn := fun _ => fun
  | [d] => { results := [.lit (.bool false)], args := [d] }
  | _ => none }
def HazardsKeepWrongFalsely : Prop := hazardsKeepRow.holds Tryd.pinned (OpenSpec.ofChange hazardsKeepWrong)

/-- 'ragpickerlaw11.BlocksTable': WHATEVER THE INPUT: true; the input reads as it did. -/
def blocksTableSpec : ChangeSpec := { name := "blocksTable", fn := fun _ => fun
  | [d1, d2] => { results := [.lit (.bool true)], args := [d1, d2] }
  | _ => none }
def blocksTableRow : OpenClaim := { program := "ytljeiencnpnbkaadoor", sum := "4766c2f2f442efc7fa4eb71814dd28c55a4b06ba293ce940ceb749fcc6c6365c", func := "ragpicker/ragpickerlaw11.BlocksTable", spec := "blocksTable", unfollowed := true, recurses := true, named := ["ragpicker/words.fields"], plainKeys := false, apart := false, laid := [("ragpicker/words.fields", laid_ragpicker_words_fields)] }
def BlocksTableSaid : Prop := blocksTableRow.holds Tryd.pinned (OpenSpec.ofChange blocksTableSpec)

/-- ITS FALSE NEIGHBOUR: 'it returns false'. Refute it at one input. -/
def blocksTableWrong : ChangeSpec := { name := "blocksTable", fn := fun _ => fun
  | [d1, d2] => { results := [.lit (.bool false)], args := [d1, d2] }
  | _ => none }
def BlocksTableWrongFalsely : Prop := blocksTableRow.holds Tryd.pinned (OpenSpec.ofChange blocksTableWrong)

/-- 'ragpickerlaw12.OrphansOnce': WHATEVER THE INPUT: true; the input reads as it did. -/
def orphansOnceSpec : ChangeSpec := { name := "orphansOnce", fn := fun _ => fun
  | [d1, d2] => { results := [.lit (.bool true)], args := [d1, d2] }
  | _ => none }
def orphansOnceRow : OpenClaim := { program := "ytljeiencnpnbkaadoor", sum := "4766c2f2f442efc7fa4eb71814dd28c55a4b06ba293ce940ceb749fcc6c6365c", func := "ragpicker/ragpickerlaw12.OrphansOnce", spec := "orphansOnce", unfollowed := true, recurses := true, named := ["ragpicker/words.fields"], plainKeys := false, apart := false, laid := [("ragpicker/words.fields", laid_ragpicker_words_fields)] }
def OrphansOnceSaid : Prop := orphansOnceRow.holds Tryd.pinned (OpenSpec.ofChange orphansOnceSpec)

/-- ITS FALSE NEIGHBOUR: 'it returns false'. Refute it at one input. -/
def orphansOnceWrong : ChangeSpec := { name := "orphansOnce", fn := fun _ => fun
  | [d1, d2] => { results := [.lit (.bool false)], args := [d1, d2] }
  | _ => none }
def OrphansOnceWrongFalsely : Prop := orphansOnceRow.holds Tryd.pinned (OpenSpec.ofChange orphansOnceWrong)

/-- 'ragpickerlaw07.FreesOnce': WHATEVER THE INPUT: true; the input reads as it did. -/
def freesOnceSpec : ChangeSpec := { name := "freesOnce", fn := fun _ => fun
  | [d1, d2] => { results := [.lit (.bool true)], args := [d1, d2] }
  | _ => none }
def freesOnceRow : OpenClaim := { program := "ytljeiencnpnbkaadoor", sum := "4766c2f2f442efc7fa4eb71814dd28c55a4b06ba293ce940ceb749fcc6c6365c", func := "ragpicker/ragpickerlaw07.FreesOnce", spec := "freesOnce", unfollowed := true, recurses := true, named := ["ragpicker/words.fields"], plainKeys := false, apart := false, laid := [("ragpicker/words.fields", laid_ragpicker_words_fields)] }
def FreesOnceSaid : Prop := freesOnceRow.holds Tryd.pinned (OpenSpec.ofChange freesOnceSpec)

/-- ITS FALSE NEIGHBOUR: 'it returns false'. Refute it at one input. -/
def freesOnceWrong : ChangeSpec := { name := "freesOnce", fn := fun _ => fun
  | [d1, d2] => { results := [.lit (.bool false)], args := [d1, d2] }
  | _ => none }
def FreesOnceWrongFalsely : Prop := freesOnceRow.holds Tryd.pinned (OpenSpec.ofChange freesOnceWrong)

/- THE SECOND FORM. 'bulk': how many values and letters a reading holds, each counted each time it is reached (what is shared counts as often as it is met; a slice's spare places count too). A statement '..UptoSaid' is the law's where the arguments, and the package variables that the reading takes, are together of bulk at most 1048576: NARROWER than '..Said'. Prove '..Said' where nothing that the law and all that it calls make is longer than what came in: it says more and counts as full. Else prove '..UptoSaid'. A law counts once. -/
mutual
def uptoBulk {H : Type} : DataW H → Nat
  | .lit (.string bytes) => bytes.length + 1
  | .lit _ => 1
  | .nil => 1
  | .ptr d => uptoBulk d + 1
  | .slice elems spare => uptoBulkAll elems + uptoBulkAll spare + 1
  | .agg parts => uptoBulkAll parts + 1
  | .iface _ d => uptoBulk d + 1
  | .map entries => uptoBulkEntries entries + 1
  | .held _ => 1
def uptoBulkAll {H : Type} : List (DataW H) → Nat
  | [] => 0
  | d :: r => uptoBulk d + uptoBulkAll r
def uptoBulkEntries {H : Type} : List (Lit × DataW H) → Nat
  | [] => 0
  | x :: r => uptoBulkEntry x + uptoBulkEntries r
def uptoBulkEntry {H : Type} : Lit × DataW H → Nat
  | (.string bytes, d) => bytes.length + uptoBulk d + 1
  | (_, d) => uptoBulk d + 1
 end
def uptoSmall : (H : Type) → List (DataW H) → Bool := fun _ ds => decide (uptoBulkAll ds ≤ 1048576)
def OpenSpec.upto (s : _root_.Go.ChangeSpec) : _root_.Go.OpenSpec := { _root_.Go.OpenSpec.ofChange s with cond := some uptoSmall }

/-- 'ragpickerlaw16.HazardsMay', WHERE WHAT IT READS IS OF BULK AT MOST 1048576: true; the input reads as it did. -/
def hazardsMayUptoRow : OpenClaim := { program := "ytljeiencnpnbkaadoor", sum := "4766c2f2f442efc7fa4eb71814dd28c55a4b06ba293ce940ceb749fcc6c6365c", func := "ragpicker/ragpickerlaw16.HazardsMay", spec := "hazardsMay", unfollowed := true, recurses := true, named := ["ragpicker/words.fields"], plainKeys := false, apart := false, laid := [("ragpicker/words.fields", laid_ragpicker_words_fields)], narrowed := true }
def HazardsMayUptoSaid : Prop := hazardsMayUptoRow.holds Tryd.pinned (OpenSpec.upto hazardsMaySpec)

/-- 'ragpickerlaw16.HazardsHeld', WHERE WHAT IT READS IS OF BULK AT MOST 1048576: true; the input reads as it did. -/
def hazardsHeldUptoRow : OpenClaim := { program := "ytljeiencnpnbkaadoor", sum := "4766c2f2f442efc7fa4eb71814dd28c55a4b06ba293ce940ceb749fcc6c6365c", func := "ragpicker/ragpickerlaw16.HazardsHeld", spec := "hazardsHeld", unfollowed := true, recurses := true, named := ["ragpicker/words.fields"], plainKeys := false, apart := false, laid := [("ragpicker/words.fields", laid_ragpicker_words_fields)], narrowed := true }
def HazardsHeldUptoSaid : Prop := hazardsHeldUptoRow.holds Tryd.pinned (OpenSpec.upto hazardsHeldSpec)

/-- 'ragpickerlaw16.HazardsKeep', WHERE WHAT IT READS IS OF BULK AT MOST 1048576: true; the input reads as it did. -/
def hazardsKeepUptoRow : OpenClaim := { program := "ytljeiencnpnbkaadoor", sum := "4766c2f2f442efc7fa4eb71814dd28c55a4b06ba293ce940ceb749fcc6c6365c", func := "ragpicker/ragpickerlaw16.HazardsKeep", spec := "hazardsKeep", unfollowed := true, recurses := true, named := ["ragpicker/words.fields"], plainKeys := false, apart := false, laid := [("ragpicker/words.fields", laid_ragpicker_words_fields)], narrowed := true }
def HazardsKeepUptoSaid : Prop := hazardsKeepUptoRow.holds Tryd.pinned (OpenSpec.upto hazardsKeepSpec)

/-- 'ragpickerlaw11.BlocksTable', WHERE WHAT IT READS IS OF BULK AT MOST 1048576: true; the input reads as it did. -/
def blocksTableUptoRow : OpenClaim := { program := "ytljeiencnpnbkaadoor", sum := "4766c2f2f442efc7fa4eb71814dd28c55a4b06ba293ce940ceb749fcc6c6365c", func := "ragpicker/ragpickerlaw11.BlocksTable", spec := "blocksTable", unfollowed := true, recurses := true, named := ["ragpicker/words.fields"], plainKeys := false, apart := false, laid := [("ragpicker/words.fields", laid_ragpicker_words_fields)], narrowed := true }
def BlocksTableUptoSaid : Prop := blocksTableUptoRow.holds Tryd.pinned (OpenSpec.upto blocksTableSpec)

/-- 'ragpickerlaw12.OrphansOnce', WHERE WHAT IT READS IS OF BULK AT MOST 1048576: true; the input reads as it did. -/
def orphansOnceUptoRow : OpenClaim := { program := "ytljeiencnpnbkaadoor", sum := "4766c2f2f442efc7fa4eb71814dd28c55a4b06ba293ce940ceb749fcc6c6365c", func := "ragpicker/ragpickerlaw12.OrphansOnce", spec := "orphansOnce", unfollowed := true, recurses := true, named := ["ragpicker/words.fields"], plainKeys := false, apart := false, laid := [("ragpicker/words.fields", laid_ragpicker_words_fields)], narrowed := true }
def OrphansOnceUptoSaid : Prop := orphansOnceUptoRow.holds Tryd.pinned (OpenSpec.upto orphansOnceSpec)

/-- 'ragpickerlaw07.FreesOnce', WHERE WHAT IT READS IS OF BULK AT MOST 1048576: true; the input reads as it did. -/
def freesOnceUptoRow : OpenClaim := { program := "ytljeiencnpnbkaadoor", sum := "4766c2f2f442efc7fa4eb71814dd28c55a4b06ba293ce940ceb749fcc6c6365c", func := "ragpicker/ragpickerlaw07.FreesOnce", spec := "freesOnce", unfollowed := true, recurses := true, named := ["ragpicker/words.fields"], plainKeys := false, apart := false, laid := [("ragpicker/words.fields", laid_ragpicker_words_fields)], narrowed := true }
def FreesOnceUptoSaid : Prop := freesOnceUptoRow.holds Tryd.pinned (OpenSpec.upto freesOnceSpec)

end Rows
end Go.Proofs.YtljeiencnpnbkaaDoor
