/-
  RetiresParts: definitions.
-/
import Derived.Test.YtmlfmmnnbdlabaaNrPh
set_option linter.unusedSimpArgs false
set_option linter.unusedVariables false
namespace Go.Proofs.Ytmlfmmnnbdlabaa
open Go.Ev
/-- The list behind the adds; as a sweep of nothing leaves it; what goes, what stays, the refs; the list when all is in again. -/
def rpL (m : Nat) (f : Nat → Nat → AV) : LS := lsN (inE f) m
def rpE (m : Nat) (f : Nat → Nat → AV) : Nat → Ent := fun i => entOf (entF (rpL m f).E (0 + i))
def rpD (m : Nat) (f : Nat → Nat → AV) : Nat → Ent := fun i => entOf (entF (rpE m f) (0 + i))
def rpG (m q : Nat) (f g : Nat → Nat → AV) : List Ent := swG (rpD m f) (swP q g) (rpL m f).n
def rpS (m q : Nat) (f g : Nat → Nat → AV) : List Ent := swS (rpD m f) (swP q g) (rpL m f).n
def rpM (m q : Nat) (f g : Nat → Nat → AV) : List Int → Option Int := swM (rpL m f).M (rpD m f) (swP q g) (rpL m f).n
def rpR (m q : Nat) (f g : Nat → Nat → AV) : LS := reTwo ⟨(rpS m q f g).length, entAt (rpS m q f g), rpM m q f g⟩ (entAt (rpG m q f g)) (rpG m q f g).length
noncomputable def rpRun (m q : Nat) (f g : Nat → Nat → AV) (hh : List Hint) : Option (AV × List Prop × Bool) := (callF ERp 6000 3 [.ss 6 1 0 m none, .ss 1 2 0 q none] ⟨[(1, .arr 6 eSh true m f), (2, .arr 1 [.bool] true q g)], 3, gnm 0, hh, [], [], false⟩).map (fun x => (x.1, x.2.ob, noneIn [(1, .arr 6 eSh true m f), (2, .arr 1 [.bool] true q g)] x.2.wr))
end Go.Proofs.Ytmlfmmnnbdlabaa
