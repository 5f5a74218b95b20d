/-
  NARROWER THAN 'FOR EVERY INPUT', by the rows' own cells (each row's printed sentence says how): HazardsPlay: laid · BlocksPlay: laid · TablesPlay: laid · AllocsPlay: laid · GrowsPlay: laid · GrowsVoid: laid · OrphansPlay: laid.
  DERIVED. THE GIVEN ROWS OF THIS SEAT. 7 by the template 'for every input the law returns true; each argument reads behind the call as it read before'; 0 by the template 'total and deterministic' (their statements: YtlpcdjhojfopjaaGreatDoorTotals.lean).
  GIVEN WITH THE SEED: the statements are not yours to turn. If you find one false, say at which input.
  Laid BY PROGRAM, IN A SANDBOX (cutbox-rows.mjs): the forced cells as the released guide's own fill.sh prints them over the translation 915a35f58da90dd5… (all of the seat's roots in one cut). By AI agents, Wed Nov 11 2026. No macro, syntax, notation, axiom, sorry.
-/
import Derived.Test.YtlpcdjhojfopjaaGreatDoorChecked
import GoSem.Claim
import GoSem.ClaimJoined
import GoSem.ClaimMapViews
import Derived.JoinedTies
import Derived.KernelRfl
namespace Go.Proofs.YtlpcdjhojfopjaaGreatDoor
/- THE CELL 'sum', in the pinned program and in every row, IS THE sha256 OF THE DUMP (.gsa) THAT YtlpcdjhojfopjaaGreatDoorProg.lean LOADS. Nothing in Lean hashes anything: it is a label: what it is worth is what the hold of that sum in a sandbox is worth. -/
noncomputable def Tryz.pinned : Pinned := { name := "ytlpcdjhojfopjaagreatdoor", sum := "915a35f58da90dd55913f93efbb8a40b5202bdbfdf4120f7ef517cfefaefce54", checked := Tryz.checked }
namespace Rows
def none {H : Type} : Left H := { results := [], args := [] }

/- WHAT THE LISTED PACKAGE-LEVEL VARIABLES READ AS WHEN THE CALL BEGINS. Each datum BY PROGRAM (the guide's laid-datum.mjs) off the statement by which the dump's own 'gosem.cut.vars' lays the variable. In a bare row this is a premise. The card (YtlpcdjhojfopjaaGreatDoorCards.lean) ties it to the program's text. -/
def laid_ragpicker_words_fields {H : Type} : DataW H := .agg [.agg [.lit (.int .u64 0), .lit (.int .u64 16)], .agg [.lit (.int .u64 16), .lit (.int .u64 32)], .agg [.lit (.int .u64 16), .lit (.int .u64 48)], .agg [.lit (.int .u64 0), .lit (.int .u64 3)], .agg [.lit (.int .u64 3), .lit (.int .u64 32)], .agg [.lit (.int .u64 0), .lit (.int .u64 3)], .agg [.lit (.int .u64 3), .lit (.int .u64 3)], .agg [.lit (.int .u64 6), .lit (.int .u64 3)], .agg [.lit (.int .u64 16), .lit (.int .u64 48)], .agg [.lit (.int .u64 0), .lit (.int .u64 32)], .agg [.lit (.int .u64 32), .lit (.int .u64 1)]]

/-- 'ragpickerlaw16.HazardsPlay': WHATEVER THE INPUT: true; the input reads as it did. -/
def hazardsPlaySpec : ChangeSpec := { name := "hazardsPlay", fn := fun _ => fun
  | [d] => { results := [.lit (.bool true)], args := [d] }
  | _ => none }
def hazardsPlayRow : OpenClaim := { program := "ytlpcdjhojfopjaagreatdoor", sum := "915a35f58da90dd55913f93efbb8a40b5202bdbfdf4120f7ef517cfefaefce54", func := "ragpicker/ragpickerlaw16.HazardsPlay", spec := "hazardsPlay", unfollowed := true, recurses := true, named := ["ragpicker/words.fields"], plainKeys := false, apart := false, laid := [("ragpicker/words.fields", laid_ragpicker_words_fields)] }
def HazardsPlaySaid : Prop := hazardsPlayRow.holds Tryz.pinned (OpenSpec.ofChange hazardsPlaySpec)

/-- ITS FALSE NEIGHBOUR: 'it returns false'. Refute it at one input. -/
def hazardsPlayWrong : ChangeSpec := { name := "hazardsPlay", fn := fun _ => fun
  | [d] => { results := [.lit (.bool false)], args := [d] }
  | _ => none }
def HazardsPlayWrongFalsely : Prop := hazardsPlayRow.holds Tryz.pinned (OpenSpec.ofChange hazardsPlayWrong)

/-- 'ragpickerlaw11.BlocksPlay': WHATEVER THE INPUT: true; the input reads as it did. -/
def blocksPlaySpec : ChangeSpec := { name := "blocksPlay", fn := fun _ => fun
  | [d1, d2] => { results := [.lit (.bool true)], args := [d1, d2] }
  | _ => none }
def blocksPlayRow : OpenClaim := { program := "ytlpcdjhojfopjaagreatdoor", sum := "915a35f58da90dd55913f93efbb8a40b5202bdbfdf4120f7ef517cfefaefce54", func := "ragpicker/ragpickerlaw11.BlocksPlay", spec := "blocksPlay", unfollowed := true, recurses := true, named := ["ragpicker/words.fields"], plainKeys := false, apart := false, laid := [("ragpicker/words.fields", laid_ragpicker_words_fields)] }
def BlocksPlaySaid : Prop := blocksPlayRow.holds Tryz.pinned (OpenSpec.ofChange blocksPlaySpec)

/-- ITS FALSE NEIGHBOUR: 'it returns false'. Refute it at one input. -/
def blocksPlayWrong : ChangeSpec := { name := "blocksPlay", fn := fun _ => fun
  | [d1, d2] => { results := [.lit (.bool false)], args := [d1, d2] }
  | _ => none }
def BlocksPlayWrongFalsely : Prop := blocksPlayRow.holds Tryz.pinned (OpenSpec.ofChange blocksPlayWrong)

/-- 'ragpickerlaw10.TablesPlay': WHATEVER THE INPUT: true; the input reads as it did. -/
def tablesPlaySpec : ChangeSpec := { name := "tablesPlay", fn := fun _ => fun
  | [d1, d2] => { results := [.lit (.bool true)], args := [d1, d2] }
  | _ => none }
def tablesPlayRow : OpenClaim := { program := "ytlpcdjhojfopjaagreatdoor", sum := "915a35f58da90dd55913f93efbb8a40b5202bdbfdf4120f7ef517cfefaefce54", func := "ragpicker/ragpickerlaw10.TablesPlay", spec := "tablesPlay", unfollowed := true, recurses := true, named := ["ragpicker/words.fields"], plainKeys := false, apart := false, laid := [("ragpicker/words.fields", laid_ragpicker_words_fields)] }
def TablesPlaySaid : Prop := tablesPlayRow.holds Tryz.pinned (OpenSpec.ofChange tablesPlaySpec)

/-- ITS FALSE NEIGHBOUR: 'it returns false'. Refute it at one input. -/
def tablesPlayWrong : ChangeSpec := { name := "tablesPlay", fn := fun _ => fun
  | [d1, d2] => { results := [.lit (.bool false)], args := [d1, d2] }
  | _ => none }
def TablesPlayWrongFalsely : Prop := tablesPlayRow.holds Tryz.pinned (OpenSpec.ofChange tablesPlayWrong)

/-- 'ragpickerlaw08.AllocsPlay': WHATEVER THE INPUT: true; the input reads as it did. -/
def allocsPlaySpec : ChangeSpec := { name := "allocsPlay", fn := fun _ => fun
  | [d1, d2] => { results := [.lit (.bool true)], args := [d1, d2] }
  | _ => none }
def allocsPlayRow : OpenClaim := { program := "ytlpcdjhojfopjaagreatdoor", sum := "915a35f58da90dd55913f93efbb8a40b5202bdbfdf4120f7ef517cfefaefce54", func := "ragpicker/ragpickerlaw08.AllocsPlay", spec := "allocsPlay", unfollowed := true, recurses := true, named := ["ragpicker/words.fields"], plainKeys := false, apart := false, laid := [("ragpicker/words.fields", laid_ragpicker_words_fields)] }
def AllocsPlaySaid : Prop := allocsPlayRow.holds Tryz.pinned (OpenSpec.ofChange allocsPlaySpec)

/-- ITS FALSE NEIGHBOUR: 'it returns false'. Refute it at one input. -/
def allocsPlayWrong : ChangeSpec := { name := "allocsPlay", fn := fun _ => fun
  | [d1, d2] => { results := [.lit (.bool false)], args := [d1, d2] }
  | _ => none }
def AllocsPlayWrongFalsely : Prop := allocsPlayRow.holds Tryz.pinned (OpenSpec.ofChange allocsPlayWrong)

/-- 'ragpickerlaw09.GrowsPlay': WHATEVER THE INPUT: true; the input reads as it did. -/
def growsPlaySpec : ChangeSpec := { name := "growsPlay", fn := fun _ => fun
  | [d1, d2] => { results := [.lit (.bool true)], args := [d1, d2] }
  | _ => none }
def growsPlayRow : OpenClaim := { program := "ytlpcdjhojfopjaagreatdoor", sum := "915a35f58da90dd55913f93efbb8a40b5202bdbfdf4120f7ef517cfefaefce54", func := "ragpicker/ragpickerlaw09.GrowsPlay", spec := "growsPlay", unfollowed := true, recurses := true, named := ["ragpicker/words.fields"], plainKeys := false, apart := false, laid := [("ragpicker/words.fields", laid_ragpicker_words_fields)] }
def GrowsPlaySaid : Prop := growsPlayRow.holds Tryz.pinned (OpenSpec.ofChange growsPlaySpec)

/-- ITS FALSE NEIGHBOUR: 'it returns false'. Refute it at one input. -/
def growsPlayWrong : ChangeSpec := { name := "growsPlay", fn := fun _ => fun
  | [d1, d2] => { results := [.lit (.bool false)], args := [d1, d2] }
  | _ => none }
def GrowsPlayWrongFalsely : Prop := growsPlayRow.holds Tryz.pinned (OpenSpec.ofChange growsPlayWrong)

/-- 'ragpickerlaw09.GrowsVoid': WHATEVER THE INPUT: true; the input reads as it did. -/
def growsVoidSpec : ChangeSpec := { name := "growsVoid", fn := fun _ => fun
  | [d1, d2, d3] => { results := [.lit (.bool true)], args := [d1, d2, d3] }
  | _ => none }
def growsVoidRow : OpenClaim := { program := "ytlpcdjhojfopjaagreatdoor", sum := "915a35f58da90dd55913f93efbb8a40b5202bdbfdf4120f7ef517cfefaefce54", func := "ragpicker/ragpickerlaw09.GrowsVoid", spec := "growsVoid", unfollowed := true, recurses := true, named := ["ragpicker/words.fields"], plainKeys := false, apart := false, laid := [("ragpicker/words.fields", laid_ragpicker_words_fields)] }
def GrowsVoidSaid : Prop := growsVoidRow.holds Tryz.pinned (OpenSpec.ofChange growsVoidSpec)

/-- ITS FALSE NEIGHBOUR: 'it returns false'. Refute it at one input. -/
def growsVoidWrong : ChangeSpec := { name := "growsVoid", fn := fun _ => fun
  | [d1, d2, d3] => { results := [.lit (.bool false)], args := [d1, d2, d3] }
  | _ => none }
def GrowsVoidWrongFalsely : Prop := growsVoidRow.holds Tryz.pinned (OpenSpec.ofChange growsVoidWrong)

/-- 'ragpickerlaw12.OrphansPlay': WHATEVER THE INPUT: true; the input reads as it did. -/
def orphansPlaySpec : ChangeSpec := { name := "orphansPlay", fn := fun _ => fun
  | [d1, d2] => { results := [.lit (.bool true)], args := [d1, d2] }
  | _ => none }
def orphansPlayRow : OpenClaim := { program := "ytlpcdjhojfopjaagreatdoor", sum := "915a35f58da90dd55913f93efbb8a40b5202bdbfdf4120f7ef517cfefaefce54", func := "ragpicker/ragpickerlaw12.OrphansPlay", spec := "orphansPlay", unfollowed := true, recurses := true, named := ["ragpicker/words.fields"], plainKeys := false, apart := false, laid := [("ragpicker/words.fields", laid_ragpicker_words_fields)] }
def OrphansPlaySaid : Prop := orphansPlayRow.holds Tryz.pinned (OpenSpec.ofChange orphansPlaySpec)

/-- ITS FALSE NEIGHBOUR: 'it returns false'. Refute it at one input. -/
def orphansPlayWrong : ChangeSpec := { name := "orphansPlay", fn := fun _ => fun
  | [d1, d2] => { results := [.lit (.bool false)], args := [d1, d2] }
  | _ => none }
def OrphansPlayWrongFalsely : Prop := orphansPlayRow.holds Tryz.pinned (OpenSpec.ofChange orphansPlayWrong)

/- THE SECOND FORM. 'bulk': how many values and letters a reading holds, each counted each time it is reached (what is shared counts as often as it is met; a slice's spare places count too). A statement '..UptoSaid' is the law's where the arguments, and the package variables that the reading takes, are together of bulk at most 1048576: NARROWER than '..Said'. Prove '..Said' where nothing that the law and all that it calls make is longer than what came in: it says more and counts as full. Else prove '..UptoSaid'. A law counts once. -/
mutual
def uptoBulk {H : Type} : DataW H → Nat
  | .lit (.string bytes) => bytes.length + 1
  | .lit _ => 1
  | .nil => 1
  | .ptr d => uptoBulk d + 1
  | .slice elems spare => uptoBulkAll elems + uptoBulkAll spare + 1
  | .agg parts => uptoBulkAll parts + 1
  | .iface _ d => uptoBulk d + 1
  | .map entries => uptoBulkEntries entries + 1
  | .held _ => 1
def uptoBulkAll {H : Type} : List (DataW H) → Nat
  | [] => 0
  | d :: r => uptoBulk d + uptoBulkAll r
def uptoBulkEntries {H : Type} : List (Lit × DataW H) → Nat
  | [] => 0
  | x :: r => uptoBulkEntry x + uptoBulkEntries r
def uptoBulkEntry {H : Type} : Lit × DataW H → Nat
  | (.string bytes, d) => bytes.length + uptoBulk d + 1
  | (_, d) => uptoBulk d + 1
 end
def uptoSmall : (H : Type) → List (DataW H) → Bool := fun _ ds => decide (uptoBulkAll ds ≤ 1048576)
def OpenSpec.upto (s : _root_.Go.ChangeSpec) : _root_.Go.OpenSpec := { _root_.Go.OpenSpec.ofChange s with cond := some uptoSmall }

/-- 'ragpickerlaw16.HazardsPlay', WHERE WHAT IT READS IS OF BULK AT MOST 1048576: true; the input reads as it did. -/
def hazardsPlayUptoRow : OpenClaim := { program := "ytlpcdjhojfopjaagreatdoor", sum := "915a35f58da90dd55913f93efbb8a40b5202bdbfdf4120f7ef517cfefaefce54", func := "ragpicker/ragpickerlaw16.HazardsPlay", spec := "hazardsPlay", unfollowed := true, recurses := true, named := ["ragpicker/words.fields"], plainKeys := false, apart := false, laid := [("ragpicker/words.fields", laid_ragpicker_words_fields)], narrowed := true }
def HazardsPlayUptoSaid : Prop := hazardsPlayUptoRow.holds Tryz.pinned (OpenSpec.upto hazardsPlaySpec)

/-- 'ragpickerlaw11.BlocksPlay', WHERE WHAT IT READS IS OF BULK AT MOST 1048576: true; the input reads as it did. -/
def blocksPlayUptoRow : OpenClaim := { program := "ytlpcdjhojfopjaagreatdoor", sum := "915a35f58da90dd55913f93efbb8a40b5202bdbfdf4120f7ef517cfefaefce54", func := "ragpicker/ragpickerlaw11.BlocksPlay", spec := "blocksPlay", unfollowed := true, recurses := true, named := ["ragpicker/words.fields"], plainKeys := false, apart := false, laid := [("ragpicker/words.fields", laid_ragpicker_words_fields)], narrowed := true }
def BlocksPlayUptoSaid : Prop := blocksPlayUptoRow.holds Tryz.pinned (OpenSpec.upto blocksPlaySpec)

/-- 'ragpickerlaw10.TablesPlay', WHERE WHAT IT READS IS OF BULK AT MOST 1048576: true; the input reads as it did. -/
def tablesPlayUptoRow : OpenClaim := { program := "ytlpcdjhojfopjaagreatdoor", sum := "915a35f58da90dd55913f93efbb8a40b5202bdbfdf4120f7ef517cfefaefce54", func := "ragpicker/ragpickerlaw10.TablesPlay", spec := "tablesPlay", unfollowed := true, recurses := true, named := ["ragpicker/words.fields"], plainKeys := false, apart := false, laid := [("ragpicker/words.fields", laid_ragpicker_words_fields)], narrowed := true }
def TablesPlayUptoSaid : Prop := tablesPlayUptoRow.holds Tryz.pinned (OpenSpec.upto tablesPlaySpec)

/-- 'ragpickerlaw08.AllocsPlay', WHERE WHAT IT READS IS OF BULK AT MOST 1048576: true; the input reads as it did. -/
def allocsPlayUptoRow : OpenClaim := { program := "ytlpcdjhojfopjaagreatdoor", sum := "915a35f58da90dd55913f93efbb8a40b5202bdbfdf4120f7ef517cfefaefce54", func := "ragpicker/ragpickerlaw08.AllocsPlay", spec := "allocsPlay", unfollowed := true, recurses := true, named := ["ragpicker/words.fields"], plainKeys := false, apart := false, laid := [("ragpicker/words.fields", laid_ragpicker_words_fields)], narrowed := true }
def AllocsPlayUptoSaid : Prop := allocsPlayUptoRow.holds Tryz.pinned (OpenSpec.upto allocsPlaySpec)

/-- 'ragpickerlaw09.GrowsPlay', WHERE WHAT IT READS IS OF BULK AT MOST 1048576: true; the input reads as it did. -/
def growsPlayUptoRow : OpenClaim := { program := "ytlpcdjhojfopjaagreatdoor", sum := "915a35f58da90dd55913f93efbb8a40b5202bdbfdf4120f7ef517cfefaefce54", func := "ragpicker/ragpickerlaw09.GrowsPlay", spec := "growsPlay", unfollowed := true, recurses := true, named := ["ragpicker/words.fields"], plainKeys := false, apart := false, laid := [("ragpicker/words.fields", laid_ragpicker_words_fields)], narrowed := true }
def GrowsPlayUptoSaid : Prop := growsPlayUptoRow.holds Tryz.pinned (OpenSpec.upto growsPlaySpec)

/-- 'ragpickerlaw09.GrowsVoid', WHERE WHAT IT READS IS OF BULK AT MOST 1048576: true; the input reads as it did. -/
def growsVoidUptoRow : OpenClaim := { program := "ytlpcdjhojfopjaagreatdoor", sum := "915a35f58da90dd55913f93efbb8a40b5202bdbfdf4120f7ef517cfefaefce54", func := "ragpicker/ragpickerlaw09.GrowsVoid", spec := "growsVoid", unfollowed := true, recurses := true, named := ["ragpicker/words.fields"], plainKeys := false, apart := false, laid := [("ragpicker/words.fields", laid_ragpicker_words_fields)], narrowed := true }
def GrowsVoidUptoSaid : Prop := growsVoidUptoRow.holds Tryz.pinned (OpenSpec.upto growsVoidSpec)

/-- 'ragpickerlaw12.OrphansPlay', WHERE WHAT IT READS IS OF BULK AT MOST 1048576: true; the input reads as it did. -/
def orphansPlayUptoRow : OpenClaim := { program := "ytlpcdjhojfopjaagreatdoor", sum := "915a35f58da90dd55913f93efbb8a40b5202bdbfdf4120f7ef517cfefaefce54", func := "ragpicker/ragpickerlaw12.OrphansPlay", spec := "orphansPlay", unfollowed := true, recurses := true, named := ["ragpicker/words.fields"], plainKeys := false, apart := false, laid := [("ragpicker/words.fields", laid_ragpicker_words_fields)], narrowed := true }
def OrphansPlayUptoSaid : Prop := orphansPlayUptoRow.holds Tryz.pinned (OpenSpec.upto orphansPlaySpec)

end Rows
end Go.Proofs.YtlpcdjhojfopjaaGreatDoor
