/-
  SameWords: the loop: definitions.
-/
import Derived.Test.YtephpkfajobhmaaWRw
import Derived.Test.YtephpkfajobhmaaWWi
set_option linter.unusedSimpArgs false
set_option linter.unusedVariables false
namespace Go.Proofs.Ytephpkfajobhmaa
open Go.Ev

noncomputable def swlU (A B : List (K3 × Int)) : St := ⟨[.top, .top, .top, .ss 4 1 0 A.length (some A.length), .ss 4 2 0 B.length none, .int .i64 0] ++ List.replicate 48 .top, ⟨[(1, .arr 4 wSh false A.length (wdF (wdAt A))), (2, .arr 4 wSh false B.length (wdF (wdAt B)))], 3, gnm 0, [], [], [], false⟩⟩
noncomputable def swlT (A B : List (K3 × Int)) (i : Nat) : St := ⟨[.top, .top, .top, .ss 4 1 0 A.length (some A.length), .ss 4 2 0 B.length none, .sym .i64 (Int.ofNat i)] ++ List.replicate 48 .top, ⟨[(1, .arr 4 wSh false A.length (wdF (wdAt A))), (2, .arr 4 wSh false B.length (wdF (wdAt B)))], 3, gnm 0, [], [], [], false⟩⟩
noncomputable def swlX (A B : List (K3 × Int)) (i : Nat) : St := ⟨[.top, .top, .top, .ss 4 1 0 A.length (some A.length), .ss 4 2 0 B.length none] ++ List.replicate 49 .top, ⟨[(1, .arr 4 wSh false A.length (wdF (wdAt A))), (2, .arr 4 wSh false B.length (wdF (wdAt B)))], 3, gnm 0, [], [], [], false⟩⟩
noncomputable abbrev swlL : Code := loopAt Try.prog 32 0
noncomputable def swlLP (A B : List (K3 × Int)) : Prop := LoopHolds Try.prog swlL (swlU A B) (.exit 0) (swlX A B A.length)
end Go.Proofs.Ytephpkfajobhmaa
