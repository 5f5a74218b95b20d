/-
  NARROWER THAN 'FOR EVERY INPUT', by the rows' own cells (each row's printed sentence says how): FreesStack: laid · FreesOnce: laid · TablesFull: laid · OrphansVoid: laid · OrphansOrder: laid · OrphansRound: laid · AllocsRound: laid.
  DERIVED. THE GIVEN ROWS OF THIS SEAT. 7 by the template 'for every input the law returns true; each argument reads behind the call as it read before'; 0 by the template 'total and deterministic' (their statements: YtmndhjodbnojdaaDoorTotals.lean).
  GIVEN WITH THE SEED: the statements are not yours to turn. If you find one false, say at which input.
  Laid BY PROGRAM, IN A SANDBOX (cutbox-rows.mjs): the forced cells as the released guide's own fill.sh prints them over the translation 90550cd429b43a63… (all of the seat's roots in one cut). By AI agents, Wed Nov 11 2026. No macro, syntax, notation, axiom, sorry.
-/
import Derived.Test.YtmndhjodbnojdaaDoorChecked
import GoSem.Claim
import GoSem.ClaimJoined
import GoSem.ClaimMapViews
import Derived.JoinedTies
import Derived.KernelRfl
namespace Go.Proofs.YtmndhjodbnojdaaDoor
/- THE CELL 'sum', in the pinned program and in every row, IS THE sha256 OF THE DUMP (.gsa) THAT YtmndhjodbnojdaaDoorProg.lean LOADS. Nothing in Lean hashes anything: it is a label: what it is worth is what the hold of that sum in a sandbox is worth. -/
noncomputable def Tryd.pinned : Pinned := { name := "ytmndhjodbnojdaadoor", sum := "90550cd429b43a638eb44cb6851245683a4d37b1b6ee0cf5fe1055cc6df0474c", checked := Tryd.checked }
namespace Rows
def none {H : Type} : Left H := { results := [], args := [] }

/- WHAT THE LISTED PACKAGE-LEVEL VARIABLES READ AS WHEN THE CALL BEGINS. Each datum BY PROGRAM (the guide's laid-datum.mjs) off the statement by which the dump's own 'gosem.cut.vars' lays the variable. In a bare row this is a premise. The card (YtmndhjodbnojdaaDoorCards.lean) ties it to the program's text. -/
def laid_ragpicker_words_fields {H : Type} : DataW H := .agg [.agg [.lit (.int .u64 0), .lit (.int .u64 16)], .agg [.lit (.int .u64 16), .lit (.int .u64 32)], .agg [.lit (.int .u64 16), .lit (.int .u64 48)], .agg [.lit (.int .u64 0), .lit (.int .u64 3)], .agg [.lit (.int .u64 3), .lit (.int .u64 32)], .agg [.lit (.int .u64 0), .lit (.int .u64 3)], .agg [.lit (.int .u64 3), .lit (.int .u64 3)], .agg [.lit (.int .u64 6), .lit (.int .u64 3)], .agg [.lit (.int .u64 16), .lit (.int .u64 48)], .agg [.lit (.int .u64 0), .lit (.int .u64 32)], .agg [.lit (.int .u64 32), .lit (.int .u64 1)]]

/-- 'ragpickerlaw07.FreesStack': WHATEVER THE INPUT: true; the input reads as it did. -/
def freesStackSpec : ChangeSpec := { name := "freesStack", fn := fun _ => fun
  | [d] => { results := [.lit (.bool true)], args := [d] }
  | _ => none }
def freesStackRow : OpenClaim := { program := "ytmndhjodbnojdaadoor", sum := "90550cd429b43a638eb44cb6851245683a4d37b1b6ee0cf5fe1055cc6df0474c", func := "ragpicker/ragpickerlaw07.FreesStack", spec := "freesStack", unfollowed := true, recurses := true, named := ["ragpicker/words.fields"], plainKeys := false, apart := false, laid := [("ragpicker/words.fields", laid_ragpicker_words_fields)] }
def FreesStackSaid : Prop := freesStackRow.holds Tryd.pinned (OpenSpec.ofChange freesStackSpec)

/-- ITS FALSE NEIGHBOUR: 'it returns false'. Refute it at one input. -/
def freesStackWrong : ChangeSpec := { name := "freesStack", fn := fun _ => fun
  | [d] => { results := [.lit (.bool false)], args := [d] }
  | _ => none }
def FreesStackWrongFalsely : Prop := freesStackRow.holds Tryd.pinned (OpenSpec.ofChange freesStackWrong)

/-- 'ragpickerlaw07.FreesOnce': WHATEVER THE INPUT: true; the input reads as it did. -/
def freesOnceSpec : ChangeSpec := { name := "freesOnce", fn := fun _ => fun
  | [d1, d2] => { results := [.lit (.bool true)], args := [d1, d2] }
  | _ => none }
def freesOnceRow : OpenClaim := { program := "ytmndhjodbnojdaadoor", sum := "90550cd429b43a638eb44cb6851245683a4d37b1b6ee0cf5fe1055cc6df0474c", func := "ragpicker/ragpickerlaw07.FreesOnce", spec := "freesOnce", unfollowed := true, recurses := true, named := ["ragpicker/words.fields"], plainKeys := false, apart := false, laid := [("ragpicker/words.fields", laid_ragpicker_words_fields)] }
def FreesOnceSaid : Prop := freesOnceRow.holds Tryd.pinned (OpenSpec.ofChange freesOnceSpec)

/-- ITS FALSE NEIGHBOUR: 'it returns false'. Refute it at one input. -/
def freesOnceWrong : ChangeSpec := { name := "freesOnce", fn := fun _ => fun
  | [d1, d2] => { results := [.lit (.bool false)], args := [d1, d2] }
  | _ => none }
def FreesOnceWrongFalsely : Prop := freesOnceRow.holds Tryd.pinned (OpenSpec.ofChange freesOnceWrong)

/-- 'ragpickerlaw10.TablesFull': WHATEVER THE INPUT: true; the input reads as it did. -/
def tablesFullSpec : ChangeSpec := { name := "tablesFull", fn := fun _ => fun
  | [d1, d2, d3] => { results := [.lit (.bool true)], args := [d1, d2, d3] }
  | _ => none }
def tablesFullRow : OpenClaim := { program := "ytmndhjodbnojdaadoor", sum := "90550cd429b43a638eb44cb6851245683a4d37b1b6ee0cf5fe1055cc6df0474c", func := "ragpicker/ragpickerlaw10.TablesFull", spec := "tablesFull", unfollowed := true, recurses := true, named := ["ragpicker/words.fields"], plainKeys := false, apart := false, laid := [("ragpicker/words.fields", laid_ragpicker_words_fields)] }
def TablesFullSaid : Prop := tablesFullRow.holds Tryd.pinned (OpenSpec.ofChange tablesFullSpec)

/-- ITS FALSE NEIGHBOUR: 'it returns false'. Refute it at one input. -/
def tablesFullWrong : ChangeSpec := { name := "tablesFull", fn := fun _ => fun
  | [d1, d2, d3] => { results := [.lit (.bool false)], args := [d1, d2, d3] }
  | _ => none }
def TablesFullWrongFalsely : Prop := tablesFullRow.holds Tryd.pinned (OpenSpec.ofChange tablesFullWrong)

/-- 'ragpickerlaw12.OrphansVoid': WHATEVER THE INPUT: true; the input reads as it did. -/
def orphansVoidSpec : ChangeSpec := { name := "orphansVoid", fn := fun _ => fun
  | [d1, d2] => { results := [.lit (.bool true)], args := [d1, d2] }
  | _ => none }
def orphansVoidRow : OpenClaim := { program := "ytmndhjodbnojdaadoor", sum := "90550cd429b43a638eb44cb6851245683a4d37b1b6ee0cf5fe1055cc6df0474c", func := "ragpicker/ragpickerlaw12.OrphansVoid", spec := "orphansVoid", unfollowed := true, recurses := true, named := ["ragpicker/words.fields"], plainKeys := false, apart := false, laid := [("ragpicker/words.fields", laid_ragpicker_words_fields)] }
def OrphansVoidSaid : Prop := orphansVoidRow.holds Tryd.pinned (OpenSpec.ofChange orphansVoidSpec)

/-- ITS FALSE NEIGHBOUR: 'it returns false'. Refute it at one input. -/
def orphansVoidWrong : ChangeSpec := { name := "orphansVoid", fn := fun _ => fun
  | [d1, d2] => { results := [.lit (.bool false)], args := [d1, d2] }
  | _ => none }
def OrphansVoidWrongFalsely : Prop := orphansVoidRow.holds Tryd.pinned (OpenSpec.ofChange orphansVoidWrong)

/-- 'ragpickerlaw12.OrphansOrder': WHATEVER THE INPUT: true; the input reads as it did. -/
def orphansOrderSpec : ChangeSpec := { name := "orphansOrder", fn := fun _ => fun
  | [d1, d2] => { results := [.lit (.bool true)], args := [d1, d2] }
  | _ => none }
def orphansOrderRow : OpenClaim := { program := "ytmndhjodbnojdaadoor", sum := "90550cd429b43a638eb44cb6851245683a4d37b1b6ee0cf5fe1055cc6df0474c", func := "ragpicker/ragpickerlaw12.OrphansOrder", spec := "orphansOrder", unfollowed := true, recurses := true, named := ["ragpicker/words.fields"], plainKeys := false, apart := false, laid := [("ragpicker/words.fields", laid_ragpicker_words_fields)] }
def OrphansOrderSaid : Prop := orphansOrderRow.holds Tryd.pinned (OpenSpec.ofChange orphansOrderSpec)

/-- ITS FALSE NEIGHBOUR: 'it returns false'. Refute it at one input. -/
def orphansOrderWrong : ChangeSpec := { name := "orphansOrder", fn := fun _ => fun
  | [d1, d2] => { results := [.lit (.bool false)], args := [d1, d2] }
  | _ => none }
def OrphansOrderWrongFalsely : Prop := orphansOrderRow.holds Tryd.pinned (OpenSpec.ofChange orphansOrderWrong)

/-- 'ragpickerlaw12.OrphansRound': WHATEVER THE INPUT: true; the input reads as it did. -/
def orphansRoundSpec : ChangeSpec := { name := "orphansRound", fn := fun _ => fun
  | [d] => { results := [.lit (.bool true)], args := [d] }
  | _ => none }
def orphansRoundRow : OpenClaim := { program := "ytmndhjodbnojdaadoor", sum := "90550cd429b43a638eb44cb6851245683a4d37b1b6ee0cf5fe1055cc6df0474c", func := "ragpicker/ragpickerlaw12.OrphansRound", spec := "orphansRound", unfollowed := true, recurses := true, named := ["ragpicker/words.fields"], plainKeys := false, apart := false, laid := [("ragpicker/words.fields", laid_ragpicker_words_fields)] }
def OrphansRoundSaid : Prop := orphansRoundRow.holds Tryd.pinned (OpenSpec.ofChange orphansRoundSpec)

/-- ITS FALSE NEIGHBOUR: 'it returns false'. Refute it at one input. -/
def orphansRoundWrong : ChangeSpec := { name := "orphansRound", fn := fun _ => fun
  | [d] => { results := [.lit (.bool false)], args := [d] }
  | _ => none }
def OrphansRoundWrongFalsely : Prop := orphansRoundRow.holds Tryd.pinned (OpenSpec.ofChange orphansRoundWrong)

/-- 'ragpickerlaw08.AllocsRound': WHATEVER THE INPUT: true; the input reads as it did. -/
def allocsRoundSpec : ChangeSpec := { name := "allocsRound", fn := fun _ => fun
  | [d] => { results := [.lit (.bool true)], args := [d] }
  | _ => none }
def allocsRoundRow : OpenClaim := { program := "ytmndhjodbnojdaadoor", sum := "90550cd429b43a638eb44cb6851245683a4d37b1b6ee0cf5fe1055cc6df0474c", func := "ragpicker/ragpickerlaw08.AllocsRound", spec := "allocsRound", unfollowed := true, recurses := true, named := ["ragpicker/words.fields"], plainKeys := false, apart := false, laid := [("ragpicker/words.fields", laid_ragpicker_words_fields)] }
def AllocsRoundSaid : Prop := allocsRoundRow.holds Tryd.pinned (OpenSpec.ofChange allocsRoundSpec)

/-- ITS FALSE NEIGHBOUR: 'it returns false'. Refute it at one input. -/
def allocsRoundWrong : ChangeSpec := { name := "allocsRound", fn := fun _ => fun
  | [d] => { results := [.lit (.bool false)], args := [d] }
  | _ => none }
def AllocsRoundWrongFalsely : Prop := allocsRoundRow.holds Tryd.pinned (OpenSpec.ofChange allocsRoundWrong)

/- THE SECOND FORM. 'bulk': how many values and letters a reading holds, each counted each time it is reached (what is shared counts as often as it is met; a slice's spare places count too). A statement '..UptoSaid' is the law's where the arguments, and the package variables that the reading takes, are together of bulk at most 1048576: NARROWER than '..Said'. Prove '..Said' where nothing that the law and all that it calls make is longer than what came in: it says more and counts as full. Else prove '..UptoSaid'. A law counts once. -/
mutual
def uptoBulk {H : Type} : DataW H → Nat
  | .lit (.string bytes) => bytes.length + 1
  | .lit _ => 1
  | .nil => 1
  | .ptr d => uptoBulk d + 1
  | .slice elems spare => uptoBulkAll elems + uptoBulkAll spare + 1
  | .agg parts => uptoBulkAll parts + 1
  | .iface _ d => uptoBulk d + 1
  | .map entries => uptoBulkEntries entries + 1
  | .held _ => 1
def uptoBulkAll {H : Type} : List (DataW H) → Nat
  | [] => 0
  | d :: r => uptoBulk d + uptoBulkAll r
def uptoBulkEntries {H : Type} : List (Lit × DataW H) → Nat
  | [] => 0
  | x :: r => uptoBulkEntry x + uptoBulkEntries r
def uptoBulkEntry {H : Type} : Lit × DataW H → Nat
  | (.string bytes, d) => bytes.length + uptoBulk d + 1
  | (_, d) => uptoBulk d + 1
 end
def uptoSmall : (H : Type) → List (DataW H) → Bool := fun _ ds => decide (uptoBulkAll ds ≤ 1048576)
def OpenSpec.upto (s : _root_.Go.ChangeSpec) : _root_.Go.OpenSpec := { _root_.Go.OpenSpec.ofChange s with cond := some uptoSmall }

/-- 'ragpickerlaw07.FreesStack', WHERE WHAT IT READS IS OF BULK AT MOST 1048576: true; the input reads as it did. -/
def freesStackUptoRow : OpenClaim := { program := "ytmndhjodbnojdaadoor", sum := "90550cd429b43a638eb44cb6851245683a4d37b1b6ee0cf5fe1055cc6df0474c", func := "ragpicker/ragpickerlaw07.FreesStack", spec := "freesStack", unfollowed := true, recurses := true, named := ["ragpicker/words.fields"], plainKeys := false, apart := false, laid := [("ragpicker/words.fields", laid_ragpicker_words_fields)], narrowed := true }
def FreesStackUptoSaid : Prop := freesStackUptoRow.holds Tryd.pinned (OpenSpec.upto freesStackSpec)

/-- 'ragpickerlaw07.FreesOnce', WHERE WHAT IT READS IS OF BULK AT MOST 1048576: true; the input reads as it did. -/
def freesOnceUptoRow : OpenClaim := { program := "ytmndhjodbnojdaadoor", sum := "90550cd429b43a638eb44cb6851245683a4d37b1b6ee0cf5fe1055cc6df0474c", func := "ragpicker/ragpickerlaw07.FreesOnce", spec := "freesOnce", unfollowed := true, recurses := true, named := ["ragpicker/words.fields"], plainKeys := false, apart := false, laid := [("ragpicker/words.fields", laid_ragpicker_words_fields)], narrowed := true }
def FreesOnceUptoSaid : Prop := freesOnceUptoRow.holds Tryd.pinned (OpenSpec.upto freesOnceSpec)

/-- 'ragpickerlaw10.TablesFull', WHERE WHAT IT READS IS OF BULK AT MOST 1048576: true; the input reads as it did. -/
def tablesFullUptoRow : OpenClaim := { program := "ytmndhjodbnojdaadoor", sum := "90550cd429b43a638eb44cb6851245683a4d37b1b6ee0cf5fe1055cc6df0474c", func := "ragpicker/ragpickerlaw10.TablesFull", spec := "tablesFull", unfollowed := true, recurses := true, named := ["ragpicker/words.fields"], plainKeys := false, apart := false, laid := [("ragpicker/words.fields", laid_ragpicker_words_fields)], narrowed := true }
def TablesFullUptoSaid : Prop := tablesFullUptoRow.holds Tryd.pinned (OpenSpec.upto tablesFullSpec)

/-- 'ragpickerlaw12.OrphansVoid', WHERE WHAT IT READS IS OF BULK AT MOST 1048576: true; the input reads as it did. -/
def orphansVoidUptoRow : OpenClaim := { program := "ytmndhjodbnojdaadoor", sum := "90550cd429b43a638eb44cb6851245683a4d37b1b6ee0cf5fe1055cc6df0474c", func := "ragpicker/ragpickerlaw12.OrphansVoid", spec := "orphansVoid", unfollowed := true, recurses := true, named := ["ragpicker/words.fields"], plainKeys := false, apart := false, laid := [("ragpicker/words.fields", laid_ragpicker_words_fields)], narrowed := true }
def OrphansVoidUptoSaid : Prop := orphansVoidUptoRow.holds Tryd.pinned (OpenSpec.upto orphansVoidSpec)

/-- 'ragpickerlaw12.OrphansOrder', WHERE WHAT IT READS IS OF BULK AT MOST 1048576: true; the input reads as it did. -/
def orphansOrderUptoRow : OpenClaim := { program := "ytmndhjodbnojdaadoor", sum := "90550cd429b43a638eb44cb6851245683a4d37b1b6ee0cf5fe1055cc6df0474c", func := "ragpicker/ragpickerlaw12.OrphansOrder", spec := "orphansOrder", unfollowed := true, recurses := true, named := ["ragpicker/words.fields"], plainKeys := false, apart := false, laid := [("ragpicker/words.fields", laid_ragpicker_words_fields)], narrowed := true }
def OrphansOrderUptoSaid : Prop := orphansOrderUptoRow.holds Tryd.pinned (OpenSpec.upto orphansOrderSpec)

/-- 'ragpickerlaw12.OrphansRound', WHERE WHAT IT READS IS OF BULK AT MOST 1048576: true; the input reads as it did. -/
def orphansRoundUptoRow : OpenClaim := { program := "ytmndhjodbnojdaadoor", sum := "90550cd429b43a638eb44cb6851245683a4d37b1b6ee0cf5fe1055cc6df0474c", func := "ragpicker/ragpickerlaw12.OrphansRound", spec := "orphansRound", unfollowed := true, recurses := true, named := ["ragpicker/words.fields"], plainKeys := false, apart := false, laid := [("ragpicker/words.fields", laid_ragpicker_words_fields)], narrowed := true }
def OrphansRoundUptoSaid : Prop := orphansRoundUptoRow.holds Tryd.pinned (OpenSpec.upto orphansRoundSpec)

/-- 'ragpickerlaw08.AllocsRound', WHERE WHAT IT READS IS OF BULK AT MOST 1048576: true; the input reads as it did. -/
def allocsRoundUptoRow : OpenClaim := { program := "ytmndhjodbnojdaadoor", sum := "90550cd429b43a638eb44cb6851245683a4d37b1b6ee0cf5fe1055cc6df0474c", func := "ragpicker/ragpickerlaw08.AllocsRound", spec := "allocsRound", unfollowed := true, recurses := true, named := ["ragpicker/words.fields"], plainKeys := false, apart := false, laid := [("ragpicker/words.fields", laid_ragpicker_words_fields)], narrowed := true }
def AllocsRoundUptoSaid : Prop := allocsRoundUptoRow.holds Tryd.pinned (OpenSpec.upto allocsRoundSpec)

end Rows
end Go.Proofs.YtmndhjodbnojdaaDoor
