/-
  Stalls: Pins, any capacity: definitions.
-/
import Derived.Test.YtephpkfajobhmaaEvDoor
import Derived.Test.YtephpkfajobhmaaWBeg
import Derived.Test.YtephpkfajobhmaaWFi
set_option linter.unusedSimpArgs false
set_option linter.unusedVariables false
namespace Go.Proofs.Ytephpkfajobhmaa
open Go.Ev

def szIP (n l : Nat) (r : Bool) (g : Nat → Nat → AV) (sl ge : Int) (mk : Bool) (b ep er : Int) (cc : Option Nat) (i : Nat) : Bool := decide (avInt (g (0 + i) 6) > b)
noncomputable def szIH (n l : Nat) (r : Bool) (g : Nat → Nat → AV) (sl ge : Int) (mk : Bool) (b ep er : Int) (cc : Option Nat) : List (Nat × AO) := [(1, .arr 10 tSh r l g), (2, .cells 6 [.sym .i64 sl, .sym .u32 ge, .symb mk, .sym .u64 b, .sym .u64 ep, .sym .u64 er])]
noncomputable def szIU (n l : Nat) (r : Bool) (g : Nat → Nat → AV) (sl ge : Int) (mk : Bool) (b ep er : Int) (cc : Option Nat) : St := ⟨[.ss 10 1 0 n cc, .func (.func 88) [] [.ptr 2 0 0], .top, .top, .top, .top, .ss 10 1 0 n cc, .sym .i64 (Int.ofNat n), .int .i64 0] ++ List.replicate 10 .top, ⟨szIH n l r g sl ge mk b ep er cc, 3, gnm 0, [], [], [], false⟩⟩
noncomputable def szIT (n l : Nat) (r : Bool) (g : Nat → Nat → AV) (sl ge : Int) (mk : Bool) (b ep er : Int) (cc : Option Nat) (i : Nat) : St := ⟨[.ss 10 1 0 n cc, .func (.func 88) [] [.ptr 2 0 0], .top, .top, .top, .top, .ss 10 1 0 n cc, .sym .i64 (Int.ofNat n), .sym .i64 (Int.ofNat i)] ++ List.replicate 10 .top, ⟨szIH n l r g sl ge mk b ep er cc, 3, gnm 0, [], [], [], false⟩⟩
noncomputable def szIQ (n l : Nat) (r : Bool) (g : Nat → Nat → AV) (sl ge : Int) (mk : Bool) (b ep er : Int) (cc : Option Nat) (k : Nat) : St := ⟨[.top, .top, .top, .top, .sym .i64 (Int.ofNat k)] ++ List.replicate 14 .top, ⟨szIH n l r g sl ge mk b ep er cc, 3, gnm 0, [], [], [], false⟩⟩
noncomputable def szIS (n l : Nat) (r : Bool) (g : Nat → Nat → AV) (sl ge : Int) (mk : Bool) (b ep er : Int) (cc : Option Nat) : St := ⟨[] ++ List.replicate 19 .top, ⟨szIH n l r g sl ge mk b ep er cc, 3, gnm 0, [], [], [], false⟩⟩
noncomputable def szIR (n l : Nat) (r : Bool) (g : Nat → Nat → AV) (sl ge : Int) (mk : Bool) (b ep er : Int) (cc : Option Nat) : LR := ⟨2, .sym .i64 (srch (szIP n l r g sl ge mk b ep er cc) n (fun i => Int.ofNat i) (-1)), szIH n l r g sl ge mk b ep er cc, 0, [], [n ≤ l, n ≤ 1000000]⟩
noncomputable abbrev szIL : Code := loopAt Try.prog 128 0
noncomputable def szILF (n l : Nat) (r : Bool) (g : Nat → Nat → AV) (sl ge : Int) (mk : Bool) (b ep er : Int) (cc : Option Nat) (k : Nat) : Prop := LoopHolds Try.prog szIL (szIU n l r g sl ge mk b ep er cc) .ret (szIQ n l r g sl ge mk b ep er cc k)
noncomputable def szILN (n l : Nat) (r : Bool) (g : Nat → Nat → AV) (sl ge : Int) (mk : Bool) (b ep er : Int) (cc : Option Nat) : Prop := LoopHolds Try.prog szIL (szIU n l r g sl ge mk b ep er cc) (.exit 0) (szIS n l r g sl ge mk b ep er cc)
end Go.Proofs.Ytephpkfajobhmaa
