/-
  Index: definitions.
-/
import Derived.Test.YtmndhjodbnojdaaDoorEvLoop
import Derived.Test.YtmndhjodbnojdaaDoorJOu
set_option linter.unusedSimpArgs false
set_option linter.unusedVariables false
namespace Go.Proofs.YtmndhjodbnojdaaDoor
open Go.Ev
noncomputable def EIx : Env := envG Tryd.prog []
theorem EIx_ok : EnvOk EIx := envG_ok mgood trivial

def idzP (n l : Nat) (r : Bool) (f : Nat → Nat → AV) (s : Int) (i : Nat) : Bool := s == avInt (f (0 + i) 0)
noncomputable def idzH (n l : Nat) (r : Bool) (f : Nat → Nat → AV) (s : Int) : List (Nat × AO) := [(1, .arr 1 [.int .i64] r l f)]
noncomputable def idzU (n l : Nat) (r : Bool) (f : Nat → Nat → AV) (s : Int) : St := ⟨[.ss 1 1 0 n none, .sym .i64 s, .top, .top, .top, .top, .ss 1 1 0 n none, .sym .i64 (Int.ofNat n), .int .i64 0] ++ List.replicate 10 .top, ⟨idzH n l r f s, 2, gnm 0, [], [], [], false⟩⟩
noncomputable def idzT (n l : Nat) (r : Bool) (f : Nat → Nat → AV) (s : Int) (i : Nat) : St := ⟨[.ss 1 1 0 n none, .sym .i64 s, .top, .top, .top, .top, .ss 1 1 0 n none, .sym .i64 (Int.ofNat n), .sym .i64 (Int.ofNat i)] ++ List.replicate 10 .top, ⟨idzH n l r f s, 2, gnm 0, [], [], [], false⟩⟩
noncomputable def idzQ (n l : Nat) (r : Bool) (f : Nat → Nat → AV) (s : Int) (k : Nat) : St := ⟨[.top, .top, .top, .top, .sym .i64 (Int.ofNat k)] ++ List.replicate 14 .top, ⟨idzH n l r f s, 2, gnm 0, [], [], [], false⟩⟩
noncomputable def idzS (n l : Nat) (r : Bool) (f : Nat → Nat → AV) (s : Int) : St := ⟨[] ++ List.replicate 19 .top, ⟨idzH n l r f s, 2, gnm 0, [], [], [], false⟩⟩
noncomputable def idzR (n l : Nat) (r : Bool) (f : Nat → Nat → AV) (s : Int) : LR := ⟨1, .sym .i64 (srch (idzP n l r f s) n (fun i => Int.ofNat i) (-1)), idzH n l r f s, 0, [], [n ≤ l, n ≤ 1000000]⟩
noncomputable abbrev idzL : Code := loopAt Tryd.prog 167 0
noncomputable def idzLF (n l : Nat) (r : Bool) (f : Nat → Nat → AV) (s : Int) (k : Nat) : Prop := LoopHolds Tryd.prog idzL (idzU n l r f s) .ret (idzQ n l r f s k)
noncomputable def idzLN (n l : Nat) (r : Bool) (f : Nat → Nat → AV) (s : Int) : Prop := LoopHolds Tryd.prog idzL (idzU n l r f s) (.exit 0) (idzS n l r f s)
end Go.Proofs.YtmndhjodbnojdaaDoor
