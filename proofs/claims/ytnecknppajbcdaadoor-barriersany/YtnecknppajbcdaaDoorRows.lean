/-
  NARROWER THAN 'FOR EVERY INPUT', by the rows' own cells (each row's printed sentence says how): BarriersSeen: laid · BarriersAny: laid · BarriersPlay: laid · BarriersAll: laid.
  DERIVED. THE GIVEN ROWS OF THIS SEAT. 4 by the template 'for every input the law returns true; each argument reads behind the call as it read before'; 0 by the template 'total and deterministic' (their statements: YtnecknppajbcdaaDoorTotals.lean).
  GIVEN WITH THE SEED: the statements are not yours to turn. If you find one false, say at which input.
  Laid BY PROGRAM, IN A SANDBOX (cutbox-rows.mjs): the forced cells as the released guide's own fill.sh prints them over the translation 90f6b4490589d52c… (all of the seat's roots in one cut). By AI agents, Wed Nov 11 2026. No macro, syntax, notation, axiom, sorry.
-/
import Derived.Test.YtnecknppajbcdaaDoorChecked
import GoSem.Claim
import GoSem.ClaimJoined
import GoSem.ClaimMapViews
import Derived.JoinedTies
import Derived.KernelRfl
namespace Go.Proofs.YtnecknppajbcdaaDoor
/- THE CELL 'sum', in the pinned program and in every row, IS THE sha256 OF THE DUMP (.gsa) THAT YtnecknppajbcdaaDoorProg.lean LOADS. Nothing in Lean hashes anything: it is a label: what it is worth is what the hold of that sum in a sandbox is worth. -/
noncomputable def Tryd.pinned : Pinned := { name := "ytnecknppajbcdaadoor", sum := "90f6b4490589d52c83ddb1755cc520d7370a42e8e72b5e1e62554532cc4bccc8", checked := Tryd.checked }
namespace Rows
def none {H : Type} : Left H := { results := [], args := [] }

/- WHAT THE LISTED PACKAGE-LEVEL VARIABLES READ AS WHEN THE CALL BEGINS. Each datum BY PROGRAM (the guide's laid-datum.mjs) off the statement by which the dump's own 'gosem.cut.vars' lays the variable. In a bare row this is a premise. The card (YtnecknppajbcdaaDoorCards.lean) ties it to the program's text. -/
def laid_ragpicker_barriers_fields {H : Type} : DataW H := .agg [.lit (.int .i64 0), .lit (.int .i64 1), .lit (.int .i64 2), .lit (.int .i64 6)]

/-- 'ragpickerlaw22.BarriersSeen': WHATEVER THE INPUT: true; the input reads as it did. -/
def barriersSeenSpec : ChangeSpec := { name := "barriersSeen", fn := fun _ => fun
  | [d1, d2, d3] => { results := [.lit (.bool true)], args := [d1, d2, d3] }
  | _ => none }
def barriersSeenRow : OpenClaim := { program := "ytnecknppajbcdaadoor", sum := "90f6b4490589d52c83ddb1755cc520d7370a42e8e72b5e1e62554532cc4bccc8", func := "ragpicker/ragpickerlaw22.BarriersSeen", spec := "barriersSeen", unfollowed := true, recurses := true, named := ["ragpicker/barriers.fields"], plainKeys := false, apart := false, laid := [("ragpicker/barriers.fields", laid_ragpicker_barriers_fields)] }
def BarriersSeenSaid : Prop := barriersSeenRow.holds Tryd.pinned (OpenSpec.ofChange barriersSeenSpec)

/-- ITS FALSE NEIGHBOUR: 'it returns false'. Refute it at one input. -/
def barriersSeenWrong : ChangeSpec := { name := "barriersSeen", fn := fun _ => fun
  | [d1, d2, d3] => { results := [.lit (.bool false)], args := [d1, d2, d3] }
  | _ => none }
def BarriersSeenWrongFalsely : Prop := barriersSeenRow.holds Tryd.pinned (OpenSpec.ofChange barriersSeenWrong)

/-- 'ragpickerlaw22.BarriersAny': WHATEVER THE INPUT: true; the input reads as it did. -/
def barriersAnySpec : ChangeSpec := { name := "barriersAny", fn := fun _ => fun
  | [d1, d2, d3] => { results := [.lit (.bool true)], args := [d1, d2, d3] }
  | _ => none }
def barriersAnyRow : OpenClaim := { program := "ytnecknppajbcdaadoor", sum := "90f6b4490589d52c83ddb1755cc520d7370a42e8e72b5e1e62554532cc4bccc8", func := "ragpicker/ragpickerlaw22.BarriersAny", spec := "barriersAny", unfollowed := true, recurses := true, named := ["ragpicker/barriers.fields"], plainKeys := false, apart := false, laid := [("ragpicker/barriers.fields", laid_ragpicker_barriers_fields)] }
def BarriersAnySaid : Prop := barriersAnyRow.holds Tryd.pinned (OpenSpec.ofChange barriersAnySpec)

/-- ITS FALSE NEIGHBOUR: 'it returns false'. Refute it at one input. -/
def barriersAnyWrong : ChangeSpec := { name := "barriersAny", fn := fun _ => fun
  | [d1, d2, d3] => { results := [.lit (.bool false)], args := [d1, d2, d3] }
  | _ => none }
def BarriersAnyWrongFalsely : Prop := barriersAnyRow.holds Tryd.pinned (OpenSpec.ofChange barriersAnyWrong)

/-- 'ragpickerlaw22.BarriersPlay': WHATEVER THE INPUT: true; the input reads as it did. -/
def barriersPlaySpec : ChangeSpec := { name := "barriersPlay", fn := fun _ => fun
  | [d1, d2, d3] => { results := [.lit (.bool true)], args := [d1, d2, d3] }
  | _ => none }
def barriersPlayRow : OpenClaim := { program := "ytnecknppajbcdaadoor", sum := "90f6b4490589d52c83ddb1755cc520d7370a42e8e72b5e1e62554532cc4bccc8", func := "ragpicker/ragpickerlaw22.BarriersPlay", spec := "barriersPlay", unfollowed := true, recurses := true, named := ["ragpicker/barriers.fields"], plainKeys := false, apart := false, laid := [("ragpicker/barriers.fields", laid_ragpicker_barriers_fields)] }
def BarriersPlaySaid : Prop := barriersPlayRow.holds Tryd.pinned (OpenSpec.ofChange barriersPlaySpec)

/-- ITS FALSE NEIGHBOUR: 'it returns false'. Refute it at one input. -/
def barriersPlayWrong : ChangeSpec := { name := "barriersPlay", fn := fun _ => fun
  | [d1, d2, d3] => { results := [.lit (.bool false)], args := [d1, d2, d3] }
  | _ => none }
def BarriersPlayWrongFalsely : Prop := barriersPlayRow.holds Tryd.pinned (OpenSpec.ofChange barriersPlayWrong)

/-- 'ragpickerlaw22.BarriersAll': WHATEVER THE INPUT: true; the input reads as it did. -/
def barriersAllSpec : ChangeSpec := { name := "barriersAll", fn := fun _ => fun
  | [d1, d2, d3] => { results := [.lit (.bool true)], args := [d1, d2, d3] }
  | _ => none }
def barriersAllRow : OpenClaim := { program := "ytnecknppajbcdaadoor", sum := "90f6b4490589d52c83ddb1755cc520d7370a42e8e72b5e1e62554532cc4bccc8", func := "ragpicker/ragpickerlaw22.BarriersAll", spec := "barriersAll", unfollowed := true, recurses := true, named := ["ragpicker/barriers.fields"], plainKeys := false, apart := false, laid := [("ragpicker/barriers.fields", laid_ragpicker_barriers_fields)] }
def BarriersAllSaid : Prop := barriersAllRow.holds Tryd.pinned (OpenSpec.ofChange barriersAllSpec)

/-- ITS FALSE NEIGHBOUR: 'it returns false'. Refute it at one input. -/
def barriersAllWrong : ChangeSpec := { name := "barriersAll", fn := fun _ => fun
  | [d1, d2, d3] => { results := [.lit (.bool false)], args := [d1, d2, d3] }
  | _ => none }
def BarriersAllWrongFalsely : Prop := barriersAllRow.holds Tryd.pinned (OpenSpec.ofChange barriersAllWrong)

/- THE SECOND FORM. 'bulk': how many values and letters a reading holds, each counted each time it is reached (what is shared counts as often as it is met; a slice's spare places count too). A statement '..UptoSaid' is the law's where the arguments, and the package variables that the reading takes, are together of bulk at most 1048576: NARROWER than '..Said'. Prove '..Said' where nothing that the law and all that it calls make is longer than what came in: it says more and counts as full. Else prove '..UptoSaid'. A law counts once. -/
mutual
def uptoBulk {H : Type} : DataW H → Nat
  | .lit (.string bytes) => bytes.length + 1
  | .lit _ => 1
  | .nil => 1
  | .ptr d => uptoBulk d + 1
  | .slice elems spare => uptoBulkAll elems + uptoBulkAll spare + 1
  | .agg parts => uptoBulkAll parts + 1
  | .iface _ d => uptoBulk d + 1
  | .map entries => uptoBulkEntries entries + 1
  | .held _ => 1
def uptoBulkAll {H : Type} : List (DataW H) → Nat
  | [] => 0
  | d :: r => uptoBulk d + uptoBulkAll r
def uptoBulkEntries {H : Type} : List (Lit × DataW H) → Nat
  | [] => 0
  | x :: r => uptoBulkEntry x + uptoBulkEntries r
def uptoBulkEntry {H : Type} : Lit × DataW H → Nat
  | (.string bytes, d) => bytes.length + uptoBulk d + 1
  | (_, d) => uptoBulk d + 1
 end
def uptoSmall : (H : Type) → List (DataW H) → Bool := fun _ ds => decide (uptoBulkAll ds ≤ 1048576)
def OpenSpec.upto (s : _root_.Go.ChangeSpec) : _root_.Go.OpenSpec := { _root_.Go.OpenSpec.ofChange s with cond := some uptoSmall }

/-- 'ragpickerlaw22.BarriersSeen', WHERE WHAT IT READS IS OF BULK AT MOST 1048576: true; the input reads as it did. -/
def barriersSeenUptoRow : OpenClaim := { program := "ytnecknppajbcdaadoor", sum := "90f6b4490589d52c83ddb1755cc520d7370a42e8e72b5e1e62554532cc4bccc8", func := "ragpicker/ragpickerlaw22.BarriersSeen", spec := "barriersSeen", unfollowed := true, recurses := true, named := ["ragpicker/barriers.fields"], plainKeys := false, apart := false, laid := [("ragpicker/barriers.fields", laid_ragpicker_barriers_fields)], narrowed := true }
def BarriersSeenUptoSaid : Prop := barriersSeenUptoRow.holds Tryd.pinned (OpenSpec.upto barriersSeenSpec)

/-- 'ragpickerlaw22.BarriersAny', WHERE WHAT IT READS IS OF BULK AT MOST 1048576: true; the input reads as it did. -/
def barriersAnyUptoRow : OpenClaim := { program := "ytnecknppajbcdaadoor", sum := "90f6b4490589d52c83ddb1755cc520d7370a42e8e72b5e1e62554532cc4bccc8", func := "ragpicker/ragpickerlaw22.BarriersAny", spec := "barriersAny", unfollowed := true, recurses := true, named := ["ragpicker/barriers.fields"], plainKeys := false, apart := false, laid := [("ragpicker/barriers.fields", laid_ragpicker_barriers_fields)], narrowed := true }
def BarriersAnyUptoSaid : Prop := barriersAnyUptoRow.holds Tryd.pinned (OpenSpec.upto barriersAnySpec)

/-- 'ragpickerlaw22.BarriersPlay', WHERE WHAT IT READS IS OF BULK AT MOST 1048576: true; the input reads as it did. -/
def barriersPlayUptoRow : OpenClaim := { program := "ytnecknppajbcdaadoor", sum := "90f6b4490589d52c83ddb1755cc520d7370a42e8e72b5e1e62554532cc4bccc8", func := "ragpicker/ragpickerlaw22.BarriersPlay", spec := "barriersPlay", unfollowed := true, recurses := true, named := ["ragpicker/barriers.fields"], plainKeys := false, apart := false, laid := [("ragpicker/barriers.fields", laid_ragpicker_barriers_fields)], narrowed := true }
def BarriersPlayUptoSaid : Prop := barriersPlayUptoRow.holds Tryd.pinned (OpenSpec.upto barriersPlaySpec)

/-- 'ragpickerlaw22.BarriersAll', WHERE WHAT IT READS IS OF BULK AT MOST 1048576: true; the input reads as it did. -/
def barriersAllUptoRow : OpenClaim := { program := "ytnecknppajbcdaadoor", sum := "90f6b4490589d52c83ddb1755cc520d7370a42e8e72b5e1e62554532cc4bccc8", func := "ragpicker/ragpickerlaw22.BarriersAll", spec := "barriersAll", unfollowed := true, recurses := true, named := ["ragpicker/barriers.fields"], plainKeys := false, apart := false, laid := [("ragpicker/barriers.fields", laid_ragpicker_barriers_fields)], narrowed := true }
def BarriersAllUptoSaid : Prop := barriersAllUptoRow.holds Tryd.pinned (OpenSpec.upto barriersAllSpec)

end Rows
end Go.Proofs.YtnecknppajbcdaaDoor
