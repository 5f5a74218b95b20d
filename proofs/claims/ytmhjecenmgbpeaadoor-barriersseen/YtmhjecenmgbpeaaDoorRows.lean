/-
  NARROWER THAN 'FOR EVERY INPUT', by the rows' own cells (each row's printed sentence says how): BarriersSeen: laid · FreesStack: laid · AllocsVoid: laid · AllocsRound: laid · TablesInside: laid · OrphansVoid: laid.
  DERIVED. THE GIVEN ROWS OF THIS SEAT. 6 by the template 'for every input the law returns true; each argument reads behind the call as it read before'; 0 by the template 'total and deterministic' (their statements: YtmhjecenmgbpeaaDoorTotals.lean).
  GIVEN WITH THE SEED: the statements are not yours to turn. If you find one false, say at which input.
  Laid BY PROGRAM, IN A SANDBOX (cutbox-rows.mjs): the forced cells as the released guide's own fill.sh prints them over the translation 921f234c34d96e09… (all of the seat's roots in one cut). By AI agents, Wed Nov 11 2026. No macro, syntax, notation, axiom, sorry.
-/
import Derived.Test.YtmhjecenmgbpeaaDoorChecked
import GoSem.Claim
import GoSem.ClaimJoined
import GoSem.ClaimMapViews
import Derived.JoinedTies
import Derived.KernelRfl
namespace Go.Proofs.YtmhjecenmgbpeaaDoor
/- THE CELL 'sum', in the pinned program and in every row, IS THE sha256 OF THE DUMP (.gsa) THAT YtmhjecenmgbpeaaDoorProg.lean LOADS. Nothing in Lean hashes anything: it is a label: what it is worth is what the hold of that sum in a sandbox is worth. -/
noncomputable def Tryd.pinned : Pinned := { name := "ytmhjecenmgbpeaadoor", sum := "921f234c34d96e09996d79e273f7b896d173370cad26539cf3539d5c68b85b76", checked := Tryd.checked }
namespace Rows
def none {H : Type} : Left H := { results := [], args := [] }

/- WHAT THE LISTED PACKAGE-LEVEL VARIABLES READ AS WHEN THE CALL BEGINS. Each datum BY PROGRAM (the guide's laid-datum.mjs) off the statement by which the dump's own 'gosem.cut.vars' lays the variable. In a bare row this is a premise. The card (YtmhjecenmgbpeaaDoorCards.lean) ties it to the program's text. -/
def laid_ragpicker_barriers_fields {H : Type} : DataW H := .agg [.lit (.int .i64 0), .lit (.int .i64 1), .lit (.int .i64 2), .lit (.int .i64 6)]
def laid_ragpicker_words_fields {H : Type} : DataW H := .agg [.agg [.lit (.int .u64 0), .lit (.int .u64 16)], .agg [.lit (.int .u64 16), .lit (.int .u64 32)], .agg [.lit (.int .u64 16), .lit (.int .u64 48)], .agg [.lit (.int .u64 0), .lit (.int .u64 3)], .agg [.lit (.int .u64 3), .lit (.int .u64 32)], .agg [.lit (.int .u64 0), .lit (.int .u64 3)], .agg [.lit (.int .u64 3), .lit (.int .u64 3)], .agg [.lit (.int .u64 6), .lit (.int .u64 3)], .agg [.lit (.int .u64 16), .lit (.int .u64 48)], .agg [.lit (.int .u64 0), .lit (.int .u64 32)], .agg [.lit (.int .u64 32), .lit (.int .u64 1)]]

/-- 'ragpickerlaw22.BarriersSeen': WHATEVER THE INPUT: true; the input reads as it did. -/
def barriersSeenSpec : ChangeSpec := { name := "barriersSeen", fn := fun _ => fun
  | [d1, d2, d3] => { results := [.lit (.bool true)], args := [d1, d2, d3] }
  | _ => none }
def barriersSeenRow : OpenClaim := { program := "ytmhjecenmgbpeaadoor", sum := "921f234c34d96e09996d79e273f7b896d173370cad26539cf3539d5c68b85b76", func := "ragpicker/ragpickerlaw22.BarriersSeen", spec := "barriersSeen", unfollowed := true, recurses := true, named := ["ragpicker/barriers.fields"], plainKeys := false, apart := false, laid := [("ragpicker/barriers.fields", laid_ragpicker_barriers_fields)] }
def BarriersSeenSaid : Prop := barriersSeenRow.holds Tryd.pinned (OpenSpec.ofChange barriersSeenSpec)

/-- ITS FALSE NEIGHBOUR: 'it returns false'. Refute it at one input. -/
def barriersSeenWrong : ChangeSpec := { name := "barriersSeen", fn := fun _ => fun
  | [d1, d2, d3] => { results := [.lit (.bool false)], args := [d1, d2, d3] }
  | _ => none }
def BarriersSeenWrongFalsely : Prop := barriersSeenRow.holds Tryd.pinned (OpenSpec.ofChange barriersSeenWrong)

/-- 'ragpickerlaw07.FreesStack': WHATEVER THE INPUT: true; the input reads as it did. -/
def freesStackSpec : ChangeSpec := { name := "freesStack", fn := fun _ => fun
  | [d] => { results := [.lit (.bool true)], args := [d] }
  | _ => none }
def freesStackRow : OpenClaim := { program := "ytmhjecenmgbpeaadoor", sum := "921f234c34d96e09996d79e273f7b896d173370cad26539cf3539d5c68b85b76", func := "ragpicker/ragpickerlaw07.FreesStack", spec := "freesStack", unfollowed := true, recurses := true, named := ["ragpicker/words.fields"], plainKeys := false, apart := false, laid := [("ragpicker/words.fields", laid_ragpicker_words_fields)] }
def FreesStackSaid : Prop := freesStackRow.holds Tryd.pinned (OpenSpec.ofChange freesStackSpec)

/-- ITS FALSE NEIGHBOUR: 'it returns false'. Refute it at one input. -/
def freesStackWrong : ChangeSpec := { name := "freesStack", fn := fun _ => fun
  | [d] => { results := [.lit (.bool false)], args := [d] }
  | _ => none }
def FreesStackWrongFalsely : Prop := freesStackRow.holds Tryd.pinned (OpenSpec.ofChange freesStackWrong)

/-- 'ragpickerlaw08.AllocsVoid': WHATEVER THE INPUT: true; the input reads as it did. -/
def allocsVoidSpec : ChangeSpec := { name := "allocsVoid", fn := fun _ => fun
  | [d1, d2] => { results := [.lit (.bool true)], args := [d1, d2] }
  | _ => none }
def allocsVoidRow : OpenClaim := { program := "ytmhjecenmgbpeaadoor", sum := "921f234c34d96e09996d79e273f7b896d173370cad26539cf3539d5c68b85b76", func := "ragpicker/ragpickerlaw08.AllocsVoid", spec := "allocsVoid", unfollowed := true, recurses := true, named := ["ragpicker/words.fields"], plainKeys := false, apart := false, laid := [("ragpicker/words.fields", laid_ragpicker_words_fields)] }
def AllocsVoidSaid : Prop := allocsVoidRow.holds Tryd.pinned (OpenSpec.ofChange allocsVoidSpec)

/-- ITS FALSE NEIGHBOUR: 'it returns false'. Refute it at one input. -/
def allocsVoidWrong : ChangeSpec := { name := "allocsVoid", fn := fun _ => fun
  | [d1, d2] => { results := [.lit (.bool false)], args := [d1, d2] }
  | _ => none }
def AllocsVoidWrongFalsely : Prop := allocsVoidRow.holds Tryd.pinned (OpenSpec.ofChange allocsVoidWrong)

/-- 'ragpickerlaw08.AllocsRound': WHATEVER THE INPUT: true; the input reads as it did. -/
def allocsRoundSpec : ChangeSpec := { name := "allocsRound", fn := fun _ => fun
  | [d] => { results := [.lit (.bool true)], args := [d] }
  | _ => none }
def allocsRoundRow : OpenClaim := { program := "ytmhjecenmgbpeaadoor", sum := "921f234c34d96e09996d79e273f7b896d173370cad26539cf3539d5c68b85b76", func := "ragpicker/ragpickerlaw08.AllocsRound", spec := "allocsRound", unfollowed := true, recurses := true, named := ["ragpicker/words.fields"], plainKeys := false, apart := false, laid := [("ragpicker/words.fields", laid_ragpicker_words_fields)] }
def AllocsRoundSaid : Prop := allocsRoundRow.holds Tryd.pinned (OpenSpec.ofChange allocsRoundSpec)

/-- ITS FALSE NEIGHBOUR: 'it returns false'. Refute it at one input. -/
def allocsRoundWrong : ChangeSpec := { name := "allocsRound", fn := fun _ => fun
  | [d] => { results := [.lit (.bool false)], args := [d] }
  | _ => none }
def AllocsRoundWrongFalsely : Prop := allocsRoundRow.holds Tryd.pinned (OpenSpec.ofChange allocsRoundWrong)

/-- 'ragpickerlaw10.TablesInside': WHATEVER THE INPUT: true; the input reads as it did. -/
def tablesInsideSpec : ChangeSpec := { name := "tablesInside", fn := fun _ => fun
  | [d1, d2] => { results := [.lit (.bool true)], args := [d1, d2] }
  | _ => none }
def tablesInsideRow : OpenClaim := { program := "ytmhjecenmgbpeaadoor", sum := "921f234c34d96e09996d79e273f7b896d173370cad26539cf3539d5c68b85b76", func := "ragpicker/ragpickerlaw10.TablesInside", spec := "tablesInside", unfollowed := true, recurses := true, named := ["ragpicker/words.fields"], plainKeys := false, apart := false, laid := [("ragpicker/words.fields", laid_ragpicker_words_fields)] }
def TablesInsideSaid : Prop := tablesInsideRow.holds Tryd.pinned (OpenSpec.ofChange tablesInsideSpec)

/-- ITS FALSE NEIGHBOUR: 'it returns false'. Refute it at one input. -/
def tablesInsideWrong : ChangeSpec := { name := "tablesInside", fn := fun _ => fun
  | [d1, d2] => { results := [.lit (.bool false)], args := [d1, d2] }
  | _ => none }
def TablesInsideWrongFalsely : Prop := tablesInsideRow.holds Tryd.pinned (OpenSpec.ofChange tablesInsideWrong)

/-- 'ragpickerlaw12.OrphansVoid': WHATEVER THE INPUT: true; the input reads as it did. -/
def orphansVoidSpec : ChangeSpec := { name := "orphansVoid", fn := fun _ => fun
  | [d1, d2] => { results := [.lit (.bool true)], args := [d1, d2] }
  | _ => none }
def orphansVoidRow : OpenClaim := { program := "ytmhjecenmgbpeaadoor", sum := "921f234c34d96e09996d79e273f7b896d173370cad26539cf3539d5c68b85b76", func := "ragpicker/ragpickerlaw12.OrphansVoid", spec := "orphansVoid", unfollowed := true, recurses := true, named := ["ragpicker/words.fields"], plainKeys := false, apart := false, laid := [("ragpicker/words.fields", laid_ragpicker_words_fields)] }
def OrphansVoidSaid : Prop := orphansVoidRow.holds Tryd.pinned (OpenSpec.ofChange orphansVoidSpec)

/-- ITS FALSE NEIGHBOUR: 'it returns false'. Refute it at one input. -/
def orphansVoidWrong : ChangeSpec := { name := "orphansVoid", fn := fun _ => fun
  | [d1, d2] => { results := [.lit (.bool false)], args := [d1, d2] }
  | _ => none }
def OrphansVoidWrongFalsely : Prop := orphansVoidRow.holds Tryd.pinned (OpenSpec.ofChange orphansVoidWrong)

/- THE SECOND FORM. 'bulk': how many values and letters a reading holds, each counted each time it is reached (what is shared counts as often as it is met; a slice's spare places count too). A statement '..UptoSaid' is the law's where the arguments, and the package variables that the reading takes, are together of bulk at most 1048576: NARROWER than '..Said'. Prove '..Said' where nothing that the law and all that it calls make is longer than what came in: it says more and counts as full. Else prove '..UptoSaid'. A law counts once. -/
mutual
def uptoBulk {H : Type} : DataW H → Nat
  | .lit (.string bytes) => bytes.length + 1
  | .lit _ => 1
  | .nil => 1
  | .ptr d => uptoBulk d + 1
  | .slice elems spare => uptoBulkAll elems + uptoBulkAll spare + 1
  | .agg parts => uptoBulkAll parts + 1
  | .iface _ d => uptoBulk d + 1
  | .map entries => uptoBulkEntries entries + 1
  | .held _ => 1
def uptoBulkAll {H : Type} : List (DataW H) → Nat
  | [] => 0
  | d :: r => uptoBulk d + uptoBulkAll r
def uptoBulkEntries {H : Type} : List (Lit × DataW H) → Nat
  | [] => 0
  | x :: r => uptoBulkEntry x + uptoBulkEntries r
def uptoBulkEntry {H : Type} : Lit × DataW H → Nat
  | (.string bytes, d) => bytes.length + uptoBulk d + 1
  | (_, d) => uptoBulk d + 1
 end
def uptoSmall : (H : Type) → List (DataW H) → Bool := fun _ ds => decide (uptoBulkAll ds ≤ 1048576)
def OpenSpec.upto (s : _root_.Go.ChangeSpec) : _root_.Go.OpenSpec := { _root_.Go.OpenSpec.ofChange s with cond := some uptoSmall }

/-- 'ragpickerlaw22.BarriersSeen', WHERE WHAT IT READS IS OF BULK AT MOST 1048576: true; the input reads as it did. -/
def barriersSeenUptoRow : OpenClaim := { program := "ytmhjecenmgbpeaadoor", sum := "921f234c34d96e09996d79e273f7b896d173370cad26539cf3539d5c68b85b76", func := "ragpicker/ragpickerlaw22.BarriersSeen", spec := "barriersSeen", unfollowed := true, recurses := true, named := ["ragpicker/barriers.fields"], plainKeys := false, apart := false, laid := [("ragpicker/barriers.fields", laid_ragpicker_barriers_fields)], narrowed := true }
def BarriersSeenUptoSaid : Prop := barriersSeenUptoRow.holds Tryd.pinned (OpenSpec.upto barriersSeenSpec)

/-- 'ragpickerlaw07.FreesStack', WHERE WHAT IT READS IS OF BULK AT MOST 1048576: true; the input reads as it did. -/
def freesStackUptoRow : OpenClaim := { program := "ytmhjecenmgbpeaadoor", sum := "921f234c34d96e09996d79e273f7b896d173370cad26539cf3539d5c68b85b76", func := "ragpicker/ragpickerlaw07.FreesStack", spec := "freesStack", unfollowed := true, recurses := true, named := ["ragpicker/words.fields"], plainKeys := false, apart := false, laid := [("ragpicker/words.fields", laid_ragpicker_words_fields)], narrowed := true }
def FreesStackUptoSaid : Prop := freesStackUptoRow.holds Tryd.pinned (OpenSpec.upto freesStackSpec)

/-- 'ragpickerlaw08.AllocsVoid', WHERE WHAT IT READS IS OF BULK AT MOST 1048576: true; the input reads as it did. -/
def allocsVoidUptoRow : OpenClaim := { program := "ytmhjecenmgbpeaadoor", sum := "921f234c34d96e09996d79e273f7b896d173370cad26539cf3539d5c68b85b76", func := "ragpicker/ragpickerlaw08.AllocsVoid", spec := "allocsVoid", unfollowed := true, recurses := true, named := ["ragpicker/words.fields"], plainKeys := false, apart := false, laid := [("ragpicker/words.fields", laid_ragpicker_words_fields)], narrowed := true }
def AllocsVoidUptoSaid : Prop := allocsVoidUptoRow.holds Tryd.pinned (OpenSpec.upto allocsVoidSpec)

/-- 'ragpickerlaw08.AllocsRound', WHERE WHAT IT READS IS OF BULK AT MOST 1048576: true; the input reads as it did. -/
def allocsRoundUptoRow : OpenClaim := { program := "ytmhjecenmgbpeaadoor", sum := "921f234c34d96e09996d79e273f7b896d173370cad26539cf3539d5c68b85b76", func := "ragpicker/ragpickerlaw08.AllocsRound", spec := "allocsRound", unfollowed := true, recurses := true, named := ["ragpicker/words.fields"], plainKeys := false, apart := false, laid := [("ragpicker/words.fields", laid_ragpicker_words_fields)], narrowed := true }
def AllocsRoundUptoSaid : Prop := allocsRoundUptoRow.holds Tryd.pinned (OpenSpec.upto allocsRoundSpec)

/-- 'ragpickerlaw10.TablesInside', WHERE WHAT IT READS IS OF BULK AT MOST 1048576: true; the input reads as it did. -/
def tablesInsideUptoRow : OpenClaim := { program := "ytmhjecenmgbpeaadoor", sum := "921f234c34d96e09996d79e273f7b896d173370cad26539cf3539d5c68b85b76", func := "ragpicker/ragpickerlaw10.TablesInside", spec := "tablesInside", unfollowed := true, recurses := true, named := ["ragpicker/words.fields"], plainKeys := false, apart := false, laid := [("ragpicker/words.fields", laid_ragpicker_words_fields)], narrowed := true }
def TablesInsideUptoSaid : Prop := tablesInsideUptoRow.holds Tryd.pinned (OpenSpec.upto tablesInsideSpec)

/-- 'ragpickerlaw12.OrphansVoid', WHERE WHAT IT READS IS OF BULK AT MOST 1048576: true; the input reads as it did. -/
def orphansVoidUptoRow : OpenClaim := { program := "ytmhjecenmgbpeaadoor", sum := "921f234c34d96e09996d79e273f7b896d173370cad26539cf3539d5c68b85b76", func := "ragpicker/ragpickerlaw12.OrphansVoid", spec := "orphansVoid", unfollowed := true, recurses := true, named := ["ragpicker/words.fields"], plainKeys := false, apart := false, laid := [("ragpicker/words.fields", laid_ragpicker_words_fields)], narrowed := true }
def OrphansVoidUptoSaid : Prop := orphansVoidUptoRow.holds Tryd.pinned (OpenSpec.upto orphansVoidSpec)

end Rows
end Go.Proofs.YtmhjecenmgbpeaaDoor
