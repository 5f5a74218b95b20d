/-
  Eras: May: the search: definitions.
-/
import Derived.Test.YtmlfmmnnbdlabaaEvDoor
import Derived.Test.YtmlfmmnnbdlabaaNTkDef
set_option linter.unusedSimpArgs false
set_option linter.unusedVariables false
namespace Go.Proofs.Ytmlfmmnnbdlabaa
open Go.Ev

def ixfP (n l : Nat) (cc : Option Nat) (r : Bool) (g : Nat → Nat → AV) (sl ge : Int) (mk : Bool) (b ep er : Int) (i : Nat) : Bool := and2 (!decide (avInt (g (0 + i) 4) = 0)) (and2 (!decide (avInt (g (0 + i) 5) = 0)) (and2 (decide (IntKind.u64.wrap (avInt (g (0 + i) 4) - 1) ≤ er)) (decide (b ≤ IntKind.u64.wrap (avInt (g (0 + i) 5) - 1)))))
noncomputable def ixfH (n l : Nat) (cc : Option Nat) (r : Bool) (g : Nat → Nat → AV) (sl ge : Int) (mk : Bool) (b ep er : Int) : List (Nat × AO) := [(1, .arr 10 tSh r l g), (2, .cells 6 [.sym .i64 sl, .sym .u32 ge, .symb mk, .sym .u64 b, .sym .u64 ep, .sym .u64 er])]
noncomputable def ixfU (n l : Nat) (cc : Option Nat) (r : Bool) (g : Nat → Nat → AV) (sl ge : Int) (mk : Bool) (b ep er : Int) : St := ⟨[.ss 10 1 0 n cc, .func (.func 92) [] [.ptr 2 0 0], .top, .top, .top, .top, .ss 10 1 0 n cc, .sym .i64 (Int.ofNat n), .int .i64 0] ++ List.replicate 10 .top, ⟨ixfH n l cc r g sl ge mk b ep er, 3, gnm 0, [], [], [], false⟩⟩
noncomputable def ixfT (n l : Nat) (cc : Option Nat) (r : Bool) (g : Nat → Nat → AV) (sl ge : Int) (mk : Bool) (b ep er : Int) (i : Nat) : St := ⟨[.ss 10 1 0 n cc, .func (.func 92) [] [.ptr 2 0 0], .top, .top, .top, .top, .ss 10 1 0 n cc, .sym .i64 (Int.ofNat n), .sym .i64 (Int.ofNat i)] ++ List.replicate 10 .top, ⟨ixfH n l cc r g sl ge mk b ep er, 3, gnm 0, [], [], [], false⟩⟩
noncomputable def ixfQ (n l : Nat) (cc : Option Nat) (r : Bool) (g : Nat → Nat → AV) (sl ge : Int) (mk : Bool) (b ep er : Int) (k : Nat) : St := ⟨[.top, .top, .top, .top, .sym .i64 (Int.ofNat k)] ++ List.replicate 14 .top, ⟨ixfH n l cc r g sl ge mk b ep er, 3, gnm 0, [], [], [], false⟩⟩
noncomputable def ixfS (n l : Nat) (cc : Option Nat) (r : Bool) (g : Nat → Nat → AV) (sl ge : Int) (mk : Bool) (b ep er : Int) : St := ⟨[] ++ List.replicate 19 .top, ⟨ixfH n l cc r g sl ge mk b ep er, 3, gnm 0, [], [], [], false⟩⟩
noncomputable def ixfR (n l : Nat) (cc : Option Nat) (r : Bool) (g : Nat → Nat → AV) (sl ge : Int) (mk : Bool) (b ep er : Int) : LR := ⟨2, .sym .i64 (srch (ixfP n l cc r g sl ge mk b ep er) n (fun i => Int.ofNat i) (-1)), ixfH n l cc r g sl ge mk b ep er, 0, [], [n ≤ l, n ≤ 1000000]⟩
noncomputable abbrev ixfL : Code := loopAt Try.prog 114 0
noncomputable def ixfLF (n l : Nat) (cc : Option Nat) (r : Bool) (g : Nat → Nat → AV) (sl ge : Int) (mk : Bool) (b ep er : Int) (k : Nat) : Prop := LoopHolds Try.prog ixfL (ixfU n l cc r g sl ge mk b ep er) .ret (ixfQ n l cc r g sl ge mk b ep er k)
noncomputable def ixfLN (n l : Nat) (cc : Option Nat) (r : Bool) (g : Nat → Nat → AV) (sl ge : Int) (mk : Bool) (b ep er : Int) : Prop := LoopHolds Try.prog ixfL (ixfU n l cc r g sl ge mk b ep er) (.exit 0) (ixfS n l cc r g sl ge mk b ep er)
end Go.Proofs.Ytmlfmmnnbdlabaa
