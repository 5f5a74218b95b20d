/-
  NARROWER THAN 'FOR EVERY INPUT', by the rows' own cells (each row's printed sentence says how): BarriersPlay: laid · BarriersAll: laid.
  DERIVED. THE GIVEN ROWS OF THIS SEAT. 2 by the template 'for every input the law returns true; each argument reads behind the call as it read before'; 0 by the template 'total and deterministic' (their statements: YtmlfmmnnbdlabaaDoorTotals.lean).
  GIVEN WITH THE SEED: the statements are not yours to turn. If you find one false, say at which input.
  Laid BY PROGRAM, IN A SANDBOX (cutbox-rows.mjs): the forced cells as the released guide's own fill.sh prints them over the translation 6d02ee17a9800844… (all of the seat's roots in one cut). By AI agents, Wed Nov 11 2026. No macro, syntax, notation, axiom, sorry.
-/
import Derived.Test.YtmlfmmnnbdlabaaDoorChecked
import GoSem.Claim
import GoSem.ClaimJoined
import GoSem.ClaimMapViews
import Derived.JoinedTies
import Derived.KernelRfl
namespace Go.Proofs.YtmlfmmnnbdlabaaDoor
/- THE CELL 'sum', in the pinned program and in every row, IS THE sha256 OF THE DUMP (.gsa) THAT YtmlfmmnnbdlabaaDoorProg.lean LOADS. Nothing in Lean hashes anything: it is a label: what it is worth is what the hold of that sum in a sandbox is worth. -/
noncomputable def Tryd.pinned : Pinned := { name := "ytmlfmmnnbdlabaadoor", sum := "6d02ee17a9800844690cdf50fe8ba55440c69edc3f3890aa4c8f717bce9fa55f", checked := Tryd.checked }
namespace Rows
def none {H : Type} : Left H := { results := [], args := [] }

/- WHAT THE LISTED PACKAGE-LEVEL VARIABLES READ AS WHEN THE CALL BEGINS. Each datum BY PROGRAM (the guide's laid-datum.mjs) off the statement by which the dump's own 'gosem.cut.vars' lays the variable. In a bare row this is a premise. The card (YtmlfmmnnbdlabaaDoorCards.lean) ties it to the program's text. -/
def laid_ragpicker_barriers_fields {H : Type} : DataW H := .agg [.lit (.int .i64 0), .lit (.int .i64 1), .lit (.int .i64 2), .lit (.int .i64 6)]

/-- 'ragpickerlaw22.BarriersPlay': WHATEVER THE INPUT: true; the input reads as it did. -/
def barriersPlaySpec : ChangeSpec := { name := "barriersPlay", fn := fun _ => fun
  | [d1, d2, d3] => { results := [.lit (.bool true)], args := [d1, d2, d3] }
  | _ => none }
def barriersPlayRow : OpenClaim := { program := "ytmlfmmnnbdlabaadoor", sum := "6d02ee17a9800844690cdf50fe8ba55440c69edc3f3890aa4c8f717bce9fa55f", func := "ragpicker/ragpickerlaw22.BarriersPlay", spec := "barriersPlay", unfollowed := true, recurses := true, named := ["ragpicker/barriers.fields"], plainKeys := false, apart := false, laid := [("ragpicker/barriers.fields", laid_ragpicker_barriers_fields)] }
def BarriersPlaySaid : Prop := barriersPlayRow.holds Tryd.pinned (OpenSpec.ofChange barriersPlaySpec)

/-- ITS FALSE NEIGHBOUR: 'it returns false'. Refute it at one input. -/
def barriersPlayWrong : ChangeSpec := { name := "barriersPlay", fn := fun _ => fun
  | [d1, d2, d3] => { results := [.lit (.bool false)], args := [d1, d2, d3] }
  | _ => none }
def BarriersPlayWrongFalsely : Prop := barriersPlayRow.holds Tryd.pinned (OpenSpec.ofChange barriersPlayWrong)

/-- 'ragpickerlaw22.BarriersAll': WHATEVER THE INPUT: true; the input reads as it did. -/
def barriersAllSpec : ChangeSpec := { name := "barriersAll", fn := fun _ => fun
  | [d1, d2, d3] => { results := [.lit (.bool true)], args := [d1, d2, d3] }
  | _ => none }
def barriersAllRow : OpenClaim := { program := "ytmlfmmnnbdlabaadoor", sum := "6d02ee17a9800844690cdf50fe8ba55440c69edc3f3890aa4c8f717bce9fa55f", func := "ragpicker/ragpickerlaw22.BarriersAll", spec := "barriersAll", unfollowed := true, recurses := true, named := ["ragpicker/barriers.fields"], plainKeys := false, apart := false, laid := [("ragpicker/barriers.fields", laid_ragpicker_barriers_fields)] }
def BarriersAllSaid : Prop := barriersAllRow.holds Tryd.pinned (OpenSpec.ofChange barriersAllSpec)

/-- ITS FALSE NEIGHBOUR: 'it returns false'. Refute it at one input. -/
def barriersAllWrong : ChangeSpec := { name := "barriersAll", fn := fun _ => fun
  | [d1, d2, d3] => { results := [.lit (.bool false)], args := [d1, d2, d3] }
  | _ => none }
def BarriersAllWrongFalsely : Prop := barriersAllRow.holds Tryd.pinned (OpenSpec.ofChange barriersAllWrong)

/- THE SECOND FORM. 'bulk': how many values and letters a reading holds, each counted each time it is reached (what is shared counts as often as it is met; a slice's spare places count too). A statement '..UptoSaid' is the law's where the arguments, and the package variables that the reading takes, are together of bulk at most 1048576: NARROWER than '..Said'. Prove '..Said' where nothing that the law and all that it calls make is longer than what came in: it says more and counts as full. Else prove '..UptoSaid'. A law counts once. -/
mutual
def uptoBulk {H : Type} : DataW H → Nat
  | .lit (.string bytes) => bytes.length + 1
  | .lit _ => 1
  | .nil => 1
  | .ptr d => uptoBulk d + 1
  | .slice elems spare => uptoBulkAll elems + uptoBulkAll spare + 1
  | .agg parts => uptoBulkAll parts + 1
  | .iface _ d => uptoBulk d + 1
  | .map entries => uptoBulkEntries entries + 1
  | .held _ => 1
def uptoBulkAll {H : Type} : List (DataW H) → Nat
  | [] => 0
  | d :: r => uptoBulk d + uptoBulkAll r
def uptoBulkEntries {H : Type} : List (Lit × DataW H) → Nat
  | [] => 0
  | x :: r => uptoBulkEntry x + uptoBulkEntries r
def uptoBulkEntry {H : Type} : Lit × DataW H → Nat
  | (.string bytes, d) => bytes.length + uptoBulk d + 1
  | (_, d) => uptoBulk d + 1
 end
def uptoSmall : (H : Type) → List (DataW H) → Bool := fun _ ds => decide (uptoBulkAll ds ≤ 1048576)
def OpenSpec.upto (s : _root_.Go.ChangeSpec) : _root_.Go.OpenSpec := { _root_.Go.OpenSpec.ofChange s with cond := some uptoSmall }

/-- 'ragpickerlaw22.BarriersPlay', WHERE WHAT IT READS IS OF BULK AT MOST 1048576: true; the input reads as it did. -/
def barriersPlayUptoRow : OpenClaim := { program := "ytmlfmmnnbdlabaadoor", sum := "6d02ee17a9800844690cdf50fe8ba55440c69edc3f3890aa4c8f717bce9fa55f", func := "ragpicker/ragpickerlaw22.BarriersPlay", spec := "barriersPlay", unfollowed := true, recurses := true, named := ["ragpicker/barriers.fields"], plainKeys := false, apart := false, laid := [("ragpicker/barriers.fields", laid_ragpicker_barriers_fields)], narrowed := true }
def BarriersPlayUptoSaid : Prop := barriersPlayUptoRow.holds Tryd.pinned (OpenSpec.upto barriersPlaySpec)

/-- 'ragpickerlaw22.BarriersAll', WHERE WHAT IT READS IS OF BULK AT MOST 1048576: true; the input reads as it did. -/
def barriersAllUptoRow : OpenClaim := { program := "ytmlfmmnnbdlabaadoor", sum := "6d02ee17a9800844690cdf50fe8ba55440c69edc3f3890aa4c8f717bce9fa55f", func := "ragpicker/ragpickerlaw22.BarriersAll", spec := "barriersAll", unfollowed := true, recurses := true, named := ["ragpicker/barriers.fields"], plainKeys := false, apart := false, laid := [("ragpicker/barriers.fields", laid_ragpicker_barriers_fields)], narrowed := true }
def BarriersAllUptoSaid : Prop := barriersAllUptoRow.holds Tryd.pinned (OpenSpec.upto barriersAllSpec)

end Rows
end Go.Proofs.YtmlfmmnnbdlabaaDoor
