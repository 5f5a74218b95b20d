/-
  StallsAny: its loop: definitions.
-/
import Derived.Test.YtephpkfajobhmaaWSq
import Derived.Test.YtephpkfajobhmaaL18
set_option linter.unusedSimpArgs false
set_option linter.unusedVariables false
namespace Go.Proofs.Ytephpkfajobhmaa
open Go.Ev
noncomputable def ESl : Env := envG Try.prog [(34, rawSP l18Spec), (37, locSP saQSpec), (38, locSP saPSpec), (35, locSP flSpec), (36, locSP saGSpec), (33, locSP saTSpec), (39, locSP saRSpec)]
theorem ESl_ok : EnvOk ESl := envG_ok mgood ⟨rawSP_ok l18Spec_ok, locSP_ok saQSpec_ok, locSP_ok saPSpec_ok, locSP_ok flSpec_ok, locSP_ok saGSpec_ok, locSP_ok saTSpec_ok, locSP_ok saRSpec_ok, trivial⟩

noncomputable def saLU (n : Nat) (g : Nat → Nat → AV) (sl ge : Int) (mk : Bool) (b ep er z0 z1 z2 : Int) : St := ⟨[.top, .top, .top, .top, .top, .top, .top, .top, .ss 1 1 0 (fl (thOf g) n).length (some (fl (thOf g) n).length), .ss 1 2 0 (fl (thOf g) n).length none, .int .i64 0] ++ List.replicate 64 .top, ⟨[(1, .arr 1 [.int .i64] false (fl (thOf g) n).length (flF (fl (thOf g) n))), (2, .arr 1 [.int .i64] false (fl (thOf g) n).length (flF (fl (thOf g) n)))], 3, gnm 0, [], [], [], false⟩⟩
noncomputable def saLT (n : Nat) (g : Nat → Nat → AV) (sl ge : Int) (mk : Bool) (b ep er z0 z1 z2 : Int) (i : Nat) : St := ⟨[.top, .top, .top, .top, .top, .top, .top, .top, .ss 1 1 0 (fl (thOf g) n).length (some (fl (thOf g) n).length), .ss 1 2 0 (fl (thOf g) n).length none, .sym .i64 (Int.ofNat i)] ++ List.replicate 64 .top, ⟨[(1, .arr 1 [.int .i64] false (fl (thOf g) n).length (flF (fl (thOf g) n))), (2, .arr 1 [.int .i64] false (fl (thOf g) n).length (flF (fl (thOf g) n)))], 3, gnm 0, [], [], [], false⟩⟩
noncomputable def saLX (n : Nat) (g : Nat → Nat → AV) (sl ge : Int) (mk : Bool) (b ep er z0 z1 z2 : Int) (i : Nat) : St := ⟨[.top, .top, .top, .top, .top, .top, .top, .top, .ss 1 1 0 (fl (thOf g) n).length (some (fl (thOf g) n).length), .ss 1 2 0 (fl (thOf g) n).length none] ++ List.replicate 65 .top, ⟨[(1, .arr 1 [.int .i64] false (fl (thOf g) n).length (flF (fl (thOf g) n))), (2, .arr 1 [.int .i64] false (fl (thOf g) n).length (flF (fl (thOf g) n)))], 3, gnm 0, [], [], [], false⟩⟩
noncomputable abbrev saLL : Code := loopAt Try.prog 7 0
noncomputable def saLLP (n : Nat) (g : Nat → Nat → AV) (sl ge : Int) (mk : Bool) (b ep er z0 z1 z2 : Int) : Prop := LoopHolds Try.prog saLL (saLU n g sl ge mk b ep er z0 z1 z2) (.exit 0) (saLX n g sl ge mk b ep er z0 z1 z2 (fl (thOf g) n).length)
end Go.Proofs.Ytephpkfajobhmaa
