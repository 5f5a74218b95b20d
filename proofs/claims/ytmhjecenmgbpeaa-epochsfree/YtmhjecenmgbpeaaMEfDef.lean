/-
  Moves of the epoch: definitions.
-/
import Derived.Test.YtmhjecenmgbpeaaEvBits
import Derived.Test.YtmhjecenmgbpeaaMMemOps
set_option linter.unusedSimpArgs false
set_option linter.unusedVariables false
namespace Go.Proofs.Ytmhjecenmgbpeaa
open Go.Ev

noncomputable def EMo : Env := envG Try.prog memSpecs
theorem EMo_ok : EnvOk EMo := envG_ok mgood memSpecs_ok
def inW (e : Int) : Int := IntKind.u64.wrap ↑(BitVec.ofInt 64 (IntKind.u64.wrap (e * 2)) ||| BitVec.ofInt 64 1).toNat
def lowB (x : Int) : Bool := decide (IntKind.u64.wrap ↑(BitVec.ofInt 64 x &&& BitVec.ofInt 64 1).toNat = 1)
def badT (M : List Int → Option Int) (e t : Int) : Bool := and2 (lowB (mget M (key 8 t 3))) (!decide (mget M (key 8 t 3) = inW e))
def allE (M : List Int → Option Int) : Int := IntKind.i64.wrap (IntKind.i64.wrap (if 4 < mget M (key 5 0 0) then 4 else mget M (key 5 0 0)) * 4)
structure Av where
  at_ : Int
  ep : Int
  th : Int
  al : Int
  mv : Bool
structure AvM where
  a : Av
  m : MS
def stepA (x : AvM) : AvM :=
  if x.a.at_ = 1 then ⟨⟨2, mget x.m.M (key 1 0 0), x.a.th, x.a.al, x.a.mv⟩, mLoad x.m 1 0 0⟩
  else if x.a.at_ = 2 then ⟨⟨if x.a.th ≥ allE x.m.M then 4 else 3, x.a.ep, x.a.th, allE x.m.M, x.a.mv⟩, mLoad x.m 5 0 0⟩
  else if x.a.at_ = 3 then ⟨⟨match badT x.m.M x.a.ep x.a.th with | true => 0 | false => if IntKind.i64.wrap (x.a.th + 1) ≥ x.a.al then 4 else 3, x.a.ep, IntKind.i64.wrap (x.a.th + 1), x.a.al, x.a.mv⟩, mLoad x.m 8 x.a.th 3⟩
  else if x.a.at_ = 4 then ⟨⟨0, x.a.ep, x.a.th, x.a.al, casD x.m.M 1 0 0 x.a.ep⟩, mCas x.m 1 0 0 x.a.ep (IntKind.u64.wrap (x.a.ep + 1))⟩
  else x
def runA (x : AvM) : Nat → AvM
  | 0 => x
  | i + 1 => stepA (runA x i)
def av0 (m : MS) : AvM := ⟨⟨1, 0, 0, 0, false⟩, m⟩
def mvN (m : MS) : Nat := fnd (fun i => decide ((runA (av0 m) i).a.at_ = 0)) 100
noncomputable def msH (m : MS) : List (Nat × AO) := [(1, .cells 9 (.map 2 :: .sym .i64 m.st :: m.L.l)), (2, .map 110 m.M)]
noncomputable def avH (x : AvM) : List (Nat × AO) := [(3, .cells 5 [.sym .i64 x.a.at_, .sym .u64 x.a.ep, .sym .i64 x.a.th, .sym .i64 x.a.al, .symb x.a.mv]), (1, .cells 9 (.map 2 :: .sym .i64 x.m.st :: x.m.L.l)), (2, .map 110 x.m.M)]
noncomputable def mvU (m : MS) : St := ⟨[.ptr 1 0 0, .top, .top, .top, .ptr 3 0 0, .int .i64 0] ++ List.replicate 16 .top, ⟨[(3, .cells 5 [.int .i64 1, .int .u64 0, .int .i64 0, .int .i64 0, .bool false]), (1, .cells 9 (.map 2 :: .sym .i64 m.st :: m.L.l)), (2, .map 110 m.M)], 4, gnm 0, [], [], [], false⟩⟩
noncomputable def mvT (x : AvM) (i : Nat) : St := ⟨[.ptr 1 0 0, .top, .top, .top, .ptr 3 0 0, .sym .i64 (Int.ofNat i)] ++ List.replicate 16 .top, ⟨avH x, 4, gnm 0, [], [], [1, 2, 3], false⟩⟩
noncomputable def mvX (x : AvM) (i : Nat) : St := ⟨[.top, .top, .top, .top, .ptr 3 0 0, .sym .i64 (Int.ofNat i)] ++ List.replicate 16 .top, ⟨avH x, 4, gnm 0, [], [], [1, 2, 3], false⟩⟩
noncomputable abbrev mvL : Code := loopAt Try.prog 19 0
noncomputable def mvLP (m : MS) (x : AvM) (k : Nat) : Prop := LoopHolds Try.prog mvL (mvU m) (.exit 0) (mvX x k)
noncomputable def mvR (m : MS) (k : Nat) : LR := ⟨2, .tup [.symb (runA (av0 m) k).a.mv, .sym .i64 (Int.ofNat k)], msH (runA (av0 m) k).m, 0, [1, 2], [mvN m < 100]⟩
end Go.Proofs.Ytmhjecenmgbpeaa
