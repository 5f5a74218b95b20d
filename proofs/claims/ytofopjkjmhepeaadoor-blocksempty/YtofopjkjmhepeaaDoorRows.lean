/-
  NARROWER THAN 'FOR EVERY INPUT', by the rows' own cells (each row's printed sentence says how): TablesFull: laid · TablesInside: laid · TablesVoid: laid · BlocksMost: laid · BlocksVoid: laid · BlocksEmpty: laid · BlocksTable: laid.
  DERIVED. THE GIVEN ROWS OF THIS SEAT. 7 by the template 'for every input the law returns true; each argument reads behind the call as it read before'; 0 by the template 'total and deterministic' (their statements: YtofopjkjmhepeaaDoorTotals.lean).
  GIVEN WITH THE SEED: the statements are not yours to turn. If you find one false, say at which input.
  Laid BY PROGRAM, IN A SANDBOX (cutbox-rows.mjs): the forced cells as the released guide's own fill.sh prints them over the translation 38ebebc1aa8155e3… (all of the seat's roots in one cut). By AI agents, Wed Nov 11 2026. No macro, syntax, notation, axiom, sorry.
-/
import Derived.Test.YtofopjkjmhepeaaDoorChecked
import GoSem.Claim
import GoSem.ClaimJoined
import GoSem.ClaimMapViews
import Derived.JoinedTies
import Derived.KernelRfl
namespace Go.Proofs.YtofopjkjmhepeaaDoor
/- THE CELL 'sum', in the pinned program and in every row, IS THE sha256 OF THE DUMP (.gsa) THAT YtofopjkjmhepeaaDoorProg.lean LOADS. Nothing in Lean hashes anything: it is a label: what it is worth is what the hold of that sum in a sandbox is worth. -/
noncomputable def Tryd.pinned : Pinned := { name := "ytofopjkjmhepeaadoor", sum := "38ebebc1aa8155e3d798d959381855a3f93abb40345ca07bcab109a1821556d3", checked := Tryd.checked }
namespace Rows
def none {H : Type} : Left H := { results := [], args := [] }

/- WHAT THE LISTED PACKAGE-LEVEL VARIABLES READ AS WHEN THE CALL BEGINS. Each datum BY PROGRAM (the guide's laid-datum.mjs) off the statement by which the dump's own 'gosem.cut.vars' lays the variable. In a bare row this is a premise. The card (YtofopjkjmhepeaaDoorCards.lean) ties it to the program's text. -/
def laid_ragpicker_words_fields {H : Type} : DataW H := .agg [.agg [.lit (.int .u64 0), .lit (.int .u64 16)], .agg [.lit (.int .u64 16), .lit (.int .u64 32)], .agg [.lit (.int .u64 16), .lit (.int .u64 48)], .agg [.lit (.int .u64 0), .lit (.int .u64 3)], .agg [.lit (.int .u64 3), .lit (.int .u64 32)], .agg [.lit (.int .u64 0), .lit (.int .u64 3)], .agg [.lit (.int .u64 3), .lit (.int .u64 3)], .agg [.lit (.int .u64 6), .lit (.int .u64 3)], .agg [.lit (.int .u64 16), .lit (.int .u64 48)], .agg [.lit (.int .u64 0), .lit (.int .u64 32)], .agg [.lit (.int .u64 32), .lit (.int .u64 1)]]

/-- 'ragpickerlaw10.TablesFull': WHATEVER THE INPUT: true; the input reads as it did. -/
def tablesFullSpec : ChangeSpec := { name := "tablesFull", fn := fun _ => fun
  | [d1, d2, d3] => { results := [.lit (.bool true)], args := [d1, d2, d3] }
  | _ => none }
def tablesFullRow : OpenClaim := { program := "ytofopjkjmhepeaadoor", sum := "38ebebc1aa8155e3d798d959381855a3f93abb40345ca07bcab109a1821556d3", func := "ragpicker/ragpickerlaw10.TablesFull", spec := "tablesFull", unfollowed := true, recurses := true, named := ["ragpicker/words.fields"], plainKeys := false, apart := false, laid := [("ragpicker/words.fields", laid_ragpicker_words_fields)] }
def TablesFullSaid : Prop := tablesFullRow.holds Tryd.pinned (OpenSpec.ofChange tablesFullSpec)

/-- ITS FALSE NEIGHBOUR: 'it returns false'. Refute it at one input. -/
def tablesFullWrong : ChangeSpec := { name := "tablesFull", fn := fun _ => fun
  | [d1, d2, d3] => { results := [.lit (.bool false)], args := [d1, d2, d3] }
  | _ => none }
def TablesFullWrongFalsely : Prop := tablesFullRow.holds Tryd.pinned (OpenSpec.ofChange tablesFullWrong)

/-- 'ragpickerlaw10.TablesInside': WHATEVER THE INPUT: true; the input reads as it did. -/
def tablesInsideSpec : ChangeSpec := { name := "tablesInside", fn := fun _ => fun
  | [d1, d2] => { results := [.lit (.bool true)], args := [d1, d2] }
  | _ => none }
def tablesInsideRow : OpenClaim := { program := "ytofopjkjmhepeaadoor", sum := "38ebebc1aa8155e3d798d959381855a3f93abb40345ca07bcab109a1821556d3", func := "ragpicker/ragpickerlaw10.TablesInside", spec := "tablesInside", unfollowed := true, recurses := true, named := ["ragpicker/words.fields"], plainKeys := false, apart := false, laid := [("ragpicker/words.fields", laid_ragpicker_words_fields)] }
def TablesInsideSaid : Prop := tablesInsideRow.holds Tryd.pinned (OpenSpec.ofChange tablesInsideSpec)

/-- ITS FALSE NEIGHBOUR: 'it returns false'. Refute it at one input. -/
def tablesInsideWrong : ChangeSpec := { name := "tablesInside", fn := fun _ => fun
  | [d1, d2] => { results := [.lit (.bool false)], args := [d1, d2] }
  | _ => none }
def TablesInsideWrongFalsely : Prop := tablesInsideRow.holds Tryd.pinned (OpenSpec.ofChange tablesInsideWrong)

/-- 'ragpickerlaw10.TablesVoid': WHATEVER THE INPUT: true; the input reads as it did. -/
def tablesVoidSpec : ChangeSpec := { name := "tablesVoid", fn := fun _ => fun
  | [d1, d2] => { results := [.lit (.bool true)], args := [d1, d2] }
  | _ => none }
def tablesVoidRow : OpenClaim := { program := "ytofopjkjmhepeaadoor", sum := "38ebebc1aa8155e3d798d959381855a3f93abb40345ca07bcab109a1821556d3", func := "ragpicker/ragpickerlaw10.TablesVoid", spec := "tablesVoid", unfollowed := true, recurses := true, named := ["ragpicker/words.fields"], plainKeys := false, apart := false, laid := [("ragpicker/words.fields", laid_ragpicker_words_fields)] }
def TablesVoidSaid : Prop := tablesVoidRow.holds Tryd.pinned (OpenSpec.ofChange tablesVoidSpec)

/-- ITS FALSE NEIGHBOUR: 'it returns false'. Refute it at one input. -/
def tablesVoidWrong : ChangeSpec := { name := "tablesVoid", fn := fun _ => fun
  | [d1, d2] => { results := [.lit (.bool false)], args := [d1, d2] }
  | _ => none }
def TablesVoidWrongFalsely : Prop := tablesVoidRow.holds Tryd.pinned (OpenSpec.ofChange tablesVoidWrong)

/-- 'ragpickerlaw11.BlocksMost': WHATEVER THE INPUT: true; the input reads as it did. -/
def blocksMostSpec : ChangeSpec := { name := "blocksMost", fn := fun _ => fun
  | [d1, d2, d3] => { results := [.lit (.bool true)], args := [d1, d2, d3] }
  | _ => none }
def blocksMostRow : OpenClaim := { program := "ytofopjkjmhepeaadoor", sum := "38ebebc1aa8155e3d798d959381855a3f93abb40345ca07bcab109a1821556d3", func := "ragpicker/ragpickerlaw11.BlocksMost", spec := "blocksMost", unfollowed := true, recurses := true, named := ["ragpicker/words.fields"], plainKeys := false, apart := false, laid := [("ragpicker/words.fields", laid_ragpicker_words_fields)] }
def BlocksMostSaid : Prop := blocksMostRow.holds Tryd.pinned (OpenSpec.ofChange blocksMostSpec)

/-- ITS FALSE NEIGHBOUR: 'it returns false'. Refute it at one input. -/
def blocksMostWrong : ChangeSpec := { name := "blocksMost", fn := fun _ => fun
  | [d1, d2, d3] => { results := [.lit (.bool false)], args := [d1, d2, d3] }
  | _ => none }
def BlocksMostWrongFalsely : Prop := blocksMostRow.holds Tryd.pinned (OpenSpec.ofChange blocksMostWrong)

/-- 'ragpickerlaw11.BlocksVoid': WHATEVER THE INPUT: true; the input reads as it did. -/
def blocksVoidSpec : ChangeSpec := { name := "blocksVoid", fn := fun _ => fun
  | [d] => { results := [.lit (.bool true)], args := [d] }
  | _ => none }
def blocksVoidRow : OpenClaim := { program := "ytofopjkjmhepeaadoor", sum := "38ebebc1aa8155e3d798d959381855a3f93abb40345ca07bcab109a1821556d3", func := "ragpicker/ragpickerlaw11.BlocksVoid", spec := "blocksVoid", unfollowed := true, recurses := true, named := ["ragpicker/words.fields"], plainKeys := false, apart := false, laid := [("ragpicker/words.fields", laid_ragpicker_words_fields)] }
def BlocksVoidSaid : Prop := blocksVoidRow.holds Tryd.pinned (OpenSpec.ofChange blocksVoidSpec)

/-- ITS FALSE NEIGHBOUR: 'it returns false'. Refute it at one input. -/
def blocksVoidWrong : ChangeSpec := { name := "blocksVoid", fn := fun _ => fun
  | [d] => { results := [.lit (.bool false)], args := [d] }
  | _ => none }
def BlocksVoidWrongFalsely : Prop := blocksVoidRow.holds Tryd.pinned (OpenSpec.ofChange blocksVoidWrong)

/-- 'ragpickerlaw11.BlocksEmpty': WHATEVER THE INPUT: true; the input reads as it did. -/
def blocksEmptySpec : ChangeSpec := { name := "blocksEmpty", fn := fun _ => fun
  | [d1, d2, d3] => { results := [.lit (.bool true)], args := [d1, d2, d3] }
  | _ => none }
def blocksEmptyRow : OpenClaim := { program := "ytofopjkjmhepeaadoor", sum := "38ebebc1aa8155e3d798d959381855a3f93abb40345ca07bcab109a1821556d3", func := "ragpicker/ragpickerlaw11.BlocksEmpty", spec := "blocksEmpty", unfollowed := true, recurses := true, named := ["ragpicker/words.fields"], plainKeys := false, apart := false, laid := [("ragpicker/words.fields", laid_ragpicker_words_fields)] }
def BlocksEmptySaid : Prop := blocksEmptyRow.holds Tryd.pinned (OpenSpec.ofChange blocksEmptySpec)

/-- ITS FALSE NEIGHBOUR: 'it returns false'. Refute it at one input. -/
def blocksEmptyWrong : ChangeSpec := { name := "blocksEmpty", fn := fun _ => fun
  | [d1, d2, d3] => { results := [.lit (.bool false)], args := [d1, d2, d3] }
  | _ => none }
def BlocksEmptyWrongFalsely : Prop := blocksEmptyRow.holds Tryd.pinned (OpenSpec.ofChange blocksEmptyWrong)

/-- 'ragpickerlaw11.BlocksTable': WHATEVER THE INPUT: true; the input reads as it did. -/
def blocksTableSpec : ChangeSpec := { name := "blocksTable", fn := fun _ => fun
  | [d1, d2] => { results := [.lit (.bool true)], args := [d1, d2] }
  | _ => none }
def blocksTableRow : OpenClaim := { program := "ytofopjkjmhepeaadoor", sum := "38ebebc1aa8155e3d798d959381855a3f93abb40345ca07bcab109a1821556d3", func := "ragpicker/ragpickerlaw11.BlocksTable", spec := "blocksTable", unfollowed := true, recurses := true, named := ["ragpicker/words.fields"], plainKeys := false, apart := false, laid := [("ragpicker/words.fields", laid_ragpicker_words_fields)] }
def BlocksTableSaid : Prop := blocksTableRow.holds Tryd.pinned (OpenSpec.ofChange blocksTableSpec)

/-- ITS FALSE NEIGHBOUR: 'it returns false'. Refute it at one input. -/
def blocksTableWrong : ChangeSpec := { name := "blocksTable", fn := fun _ => fun
  | [d1, d2] => { results := [.lit (.bool false)], args := [d1, d2] }
  | _ => none }
def BlocksTableWrongFalsely : Prop := blocksTableRow.holds Tryd.pinned (OpenSpec.ofChange blocksTableWrong)

/- THE SECOND FORM. 'bulk': how many values and letters a reading holds, each counted each time it is reached (what is shared counts as often as it is met; a slice's spare places count too). A statement '..UptoSaid' is the law's where the arguments, and the package variables that the reading takes, are together of bulk at most 1048576: NARROWER than '..Said'. Prove '..Said' where nothing that the law and all that it calls make is longer than what came in: it says more and counts as full. Else prove '..UptoSaid'. A law counts once. -/
mutual
def uptoBulk {H : Type} : DataW H → Nat
  | .lit (.string bytes) => bytes.length + 1
  | .lit _ => 1
  | .nil => 1
  | .ptr d => uptoBulk d + 1
  | .slice elems spare => uptoBulkAll elems + uptoBulkAll spare + 1
  | .agg parts => uptoBulkAll parts + 1
  | .iface _ d => uptoBulk d + 1
  | .map entries => uptoBulkEntries entries + 1
  | .held _ => 1
def uptoBulkAll {H : Type} : List (DataW H) → Nat
  | [] => 0
  | d :: r => uptoBulk d + uptoBulkAll r
def uptoBulkEntries {H : Type} : List (Lit × DataW H) → Nat
  | [] => 0
  | x :: r => uptoBulkEntry x + uptoBulkEntries r
def uptoBulkEntry {H : Type} : Lit × DataW H → Nat
  | (.string bytes, d) => bytes.length + uptoBulk d + 1
  | (_, d) => uptoBulk d + 1
 end
def uptoSmall : (H : Type) → List (DataW H) → Bool := fun _ ds => decide (uptoBulkAll ds ≤ 1048576)
def OpenSpec.upto (s : _root_.Go.ChangeSpec) : _root_.Go.OpenSpec := { _root_.Go.OpenSpec.ofChange s with cond := some uptoSmall }

/-- 'ragpickerlaw10.TablesFull', WHERE WHAT IT READS IS OF BULK AT MOST 1048576: true; the input reads as it did. -/
def tablesFullUptoRow : OpenClaim := { program := "ytofopjkjmhepeaadoor", sum := "38ebebc1aa8155e3d798d959381855a3f93abb40345ca07bcab109a1821556d3", func := "ragpicker/ragpickerlaw10.TablesFull", spec := "tablesFull", unfollowed := true, recurses := true, named := ["ragpicker/words.fields"], plainKeys := false, apart := false, laid := [("ragpicker/words.fields", laid_ragpicker_words_fields)], narrowed := true }
def TablesFullUptoSaid : Prop := tablesFullUptoRow.holds Tryd.pinned (OpenSpec.upto tablesFullSpec)

/-- 'ragpickerlaw10.TablesInside', WHERE WHAT IT READS IS OF BULK AT MOST 1048576: true; the input reads as it did. -/
def tablesInsideUptoRow : OpenClaim := { program := "ytofopjkjmhepeaadoor", sum := "38ebebc1aa8155e3d798d959381855a3f93abb40345ca07bcab109a1821556d3", func := "ragpicker/ragpickerlaw10.TablesInside", spec := "tablesInside", unfollowed := true, recurses := true, named := ["ragpicker/words.fields"], plainKeys := false, apart := false, laid := [("ragpicker/words.fields", laid_ragpicker_words_fields)], narrowed := true }
def TablesInsideUptoSaid : Prop := tablesInsideUptoRow.holds Tryd.pinned (OpenSpec.upto tablesInsideSpec)

/-- 'ragpickerlaw10.TablesVoid', WHERE WHAT IT READS IS OF BULK AT MOST 1048576: true; the input reads as it did. -/
def tablesVoidUptoRow : OpenClaim := { program := "ytofopjkjmhepeaadoor", sum := "38ebebc1aa8155e3d798d959381855a3f93abb40345ca07bcab109a1821556d3", func := "ragpicker/ragpickerlaw10.TablesVoid", spec := "tablesVoid", unfollowed := true, recurses := true, named := ["ragpicker/words.fields"], plainKeys := false, apart := false, laid := [("ragpicker/words.fields", laid_ragpicker_words_fields)], narrowed := true }
def TablesVoidUptoSaid : Prop := tablesVoidUptoRow.holds Tryd.pinned (OpenSpec.upto tablesVoidSpec)

/-- 'ragpickerlaw11.BlocksMost', WHERE WHAT IT READS IS OF BULK AT MOST 1048576: true; the input reads as it did. -/
def blocksMostUptoRow : OpenClaim := { program := "ytofopjkjmhepeaadoor", sum := "38ebebc1aa8155e3d798d959381855a3f93abb40345ca07bcab109a1821556d3", func := "ragpicker/ragpickerlaw11.BlocksMost", spec := "blocksMost", unfollowed := true, recurses := true, named := ["ragpicker/words.fields"], plainKeys := false, apart := false, laid := [("ragpicker/words.fields", laid_ragpicker_words_fields)], narrowed := true }
def BlocksMostUptoSaid : Prop := blocksMostUptoRow.holds Tryd.pinned (OpenSpec.upto blocksMostSpec)

/-- 'ragpickerlaw11.BlocksVoid', WHERE WHAT IT READS IS OF BULK AT MOST 1048576: true; the input reads as it did. -/
def blocksVoidUptoRow : OpenClaim := { program := "ytofopjkjmhepeaadoor", sum := "38ebebc1aa8155e3d798d959381855a3f93abb40345ca07bcab109a1821556d3", func := "ragpicker/ragpickerlaw11.BlocksVoid", spec := "blocksVoid", unfollowed := true, recurses := true, named := ["ragpicker/words.fields"], plainKeys := false, apart := false, laid := [("ragpicker/words.fields", laid_ragpicker_words_fields)], narrowed := true }
def BlocksVoidUptoSaid : Prop := blocksVoidUptoRow.holds Tryd.pinned (OpenSpec.upto blocksVoidSpec)

/-- 'ragpickerlaw11.BlocksEmpty', WHERE WHAT IT READS IS OF BULK AT MOST 1048576: true; the input reads as it did. -/
def blocksEmptyUptoRow : OpenClaim := { program := "ytofopjkjmhepeaadoor", sum := "38ebebc1aa8155e3d798d959381855a3f93abb40345ca07bcab109a1821556d3", func := "ragpicker/ragpickerlaw11.BlocksEmpty", spec := "blocksEmpty", unfollowed := true, recurses := true, named := ["ragpicker/words.fields"], plainKeys := false, apart := false, laid := [("ragpicker/words.fields", laid_ragpicker_words_fields)], narrowed := true }
def BlocksEmptyUptoSaid : Prop := blocksEmptyUptoRow.holds Tryd.pinned (OpenSpec.upto blocksEmptySpec)

/-- 'ragpickerlaw11.BlocksTable', WHERE WHAT IT READS IS OF BULK AT MOST 1048576: true; the input reads as it did. -/
def blocksTableUptoRow : OpenClaim := { program := "ytofopjkjmhepeaadoor", sum := "38ebebc1aa8155e3d798d959381855a3f93abb40345ca07bcab109a1821556d3", func := "ragpicker/ragpickerlaw11.BlocksTable", spec := "blocksTable", unfollowed := true, recurses := true, named := ["ragpicker/words.fields"], plainKeys := false, apart := false, laid := [("ragpicker/words.fields", laid_ragpicker_words_fields)], narrowed := true }
def BlocksTableUptoSaid : Prop := blocksTableUptoRow.holds Tryd.pinned (OpenSpec.upto blocksTableSpec)

end Rows
end Go.Proofs.YtofopjkjmhepeaaDoor
