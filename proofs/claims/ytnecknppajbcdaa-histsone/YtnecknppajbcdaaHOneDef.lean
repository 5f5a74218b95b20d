/-
  HistsOne: definitions.
-/
import Derived.Test.YtnecknppajbcdaaHVoid
set_option linter.unusedSimpArgs false
set_option linter.unusedVariables false
namespace Go.Proofs.Ytnecknppajbcdaa
open Go.Ev
section
variable (k t c o a y v s : Int) (k' t' c' o' a' y' v' s' : Int) (s0 s1 s2 s3 : Int)
noncomputable def hoArgs : List AV := [actA k t c o a y v s, actA k' t' c' o' a' y' v' s', .agg [.sym .u16 s0, .sym .u16 s1, .sym .u16 s2, .sym .u16 s3]]
def at0 : Int := IntKind.i64.wrap s0
def at1 : Int := IntKind.i64.wrap (IntKind.i64.wrap s0 + IntKind.i64.wrap s1)
def at2 : Int := IntKind.i64.wrap (IntKind.i64.wrap (IntKind.i64.wrap s0 + IntKind.i64.wrap s1) + IntKind.i64.wrap s2)
def at3 : Int := IntKind.i64.wrap (IntKind.i64.wrap (IntKind.i64.wrap (IntKind.i64.wrap s0 + IntKind.i64.wrap s1) + IntKind.i64.wrap s2) + IntKind.i64.wrap s3)
def anA : Int := IntKind.u8.wrap (1 + IntKind.u8.wrap (a.tmod 2))
noncomputable def hoRun (h : List Hint) : Option (AV × List Prop × Bool) := (callF EH 2000 10 (hoArgs k t c o a y v s k' t' c' o' a' y' v' s' s0 s1 s2 s3) ⟨[], 1, gnm 0, h, [], [], false⟩).map (fun x => (x.1, x.2.ob, noneIn [] x.2.wr))
end
end Go.Proofs.Ytnecknppajbcdaa
