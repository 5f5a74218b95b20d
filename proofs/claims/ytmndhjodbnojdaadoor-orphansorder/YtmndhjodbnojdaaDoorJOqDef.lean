/-
  OrphansOrder: the inner loop: definitions.
-/
import Derived.Test.YtmndhjodbnojdaaDoorJOoDef
set_option linter.unusedSimpArgs false
set_option linter.unusedVariables false
namespace Go.Proofs.YtmndhjodbnojdaaDoor
open Go.Ev

def hadF (f : Nat → Nat → AV) (j : Nat) : Nat → Bool
  | 0 => false
  | k + 1 => match hadF f j k with
    | true => true
    | false => avInt (f (0 + k) 0) == avInt (f (0 + j) 0)
noncomputable def ophU (m : Nat) (f : Nat → Nat → AV) (p : Int) (nw : Nat) (nn : Nat) (j : Nat) : St := ⟨[.ss 1 1 0 m none, .sym .u8 p, .top, .top, .bool false, .ptr 2 0 0, .ss 6 3 0 nw none, .ss 6 4 0 nn none, .sym .i64 (Int.ofNat j), .bool false, .int .i64 0] ++ List.replicate 124 .top, ⟨[(1, .arr 1 [.int .u8] true m f)], 5, gnm 0, [], [], [], false⟩⟩
noncomputable def ophT (m : Nat) (f : Nat → Nat → AV) (p : Int) (nw : Nat) (nn : Nat) (j : Nat) (i : Nat) : St := ⟨[.ss 1 1 0 m none, .sym .u8 p, .top, .top, .bool false, .ptr 2 0 0, .ss 6 3 0 nw none, .ss 6 4 0 nn none, .sym .i64 (Int.ofNat j), .symb (hadF f j i), .sym .i64 (Int.ofNat i)] ++ List.replicate 124 .top, ⟨[(1, .arr 1 [.int .u8] true m f)], 5, gnm 0, [], [], [], false⟩⟩
noncomputable def ophX (m : Nat) (f : Nat → Nat → AV) (p : Int) (nw : Nat) (nn : Nat) (j : Nat) (i : Nat) : St := ⟨[.ss 1 1 0 m none, .sym .u8 p, .top, .top, .bool false, .ptr 2 0 0, .ss 6 3 0 nw none, .ss 6 4 0 nn none, .sym .i64 (Int.ofNat j), .symb (hadF f j i)] ++ List.replicate 125 .top, ⟨[(1, .arr 1 [.int .u8] true m f)], 5, gnm 0, [], [], [], false⟩⟩
noncomputable abbrev ophL : Code := loopAt Tryd.prog 7 1
noncomputable def ophLP (m : Nat) (f : Nat → Nat → AV) (p : Int) (nw : Nat) (nn : Nat) (j : Nat) : Prop := LoopHolds Tryd.prog ophL (ophU m f p nw nn j) (.exit 2) (ophX m f p nw nn j j)
end Go.Proofs.YtmndhjodbnojdaaDoor
