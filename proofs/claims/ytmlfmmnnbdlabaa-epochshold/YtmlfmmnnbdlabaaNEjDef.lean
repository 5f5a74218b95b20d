/-
  EpochsHold: the pieces of a round.
-/
import Derived.Test.YtmlfmmnnbdlabaaNEk
set_option linter.unusedSimpArgs false
set_option linter.unusedVariables false
namespace Go.Proofs.Ytmlfmmnnbdlabaa
open Go.Ev
noncomputable def hdP : Code := fstC hdL
noncomputable def hdX_ : Code := inBlock (fstC (sndC hdL))
noncomputable def hdY : Code := tailC 3 hdX_
noncomputable def hdZ : Code := sndC (sndC hdL)
theorem hd_body : hdL = .seq hdP (.seq (.block 1 (seqs (headC 3 hdX_) hdY)) hdZ) := by kernel_rfl
abbrev hdVe (e : Int) : Int := IntKind.u64.wrap ↑(BitVec.ofInt 64 (IntKind.u64.wrap (e * 2)) ||| BitVec.ofInt 64 1).toNat
noncomputable abbrev hdXs : Code := seqs (headC 3 hdX_) .skip
section
variable (m : Nat) (f : Nat → Nat → AV)
noncomputable def hdT1 (i : Nat) (x : HX) : FSt := ⟨[.top, .ss 1 1 0 m none, .top, .top, .top, .ptr 3 0 0, .ss 5 5 0 8 (some 8), .top, .sym .i64 (Int.ofNat i), .sym .u64 (hdE x.S)] ++ List.replicate 98 .top, [(3, .cells 9 (.map 2 :: .sym .i64 x.S.st :: x.S.L.l)), (2, .map 128 x.S.M), (1, .arr 1 [.int .u8] true m f)], 8, fun k => hdMb k (x.O k), [4, 3, 2]⟩
noncomputable def hdT2 (i : Nat) (x : HX) : FSt := ⟨[.top, .ss 1 1 0 m none, .top, .top, .top, .ptr 3 0 0, .ss 5 5 0 8 (some 8), .sym .u64 (hdE x.S), .sym .i64 (Int.ofNat i)] ++ List.replicate 99 .top, [(3, .cells 9 (.map 2 :: .sym .i64 x.S.st :: x.S.L.l)), (2, .map 128 x.S.M), (1, .arr 1 [.int .u8] true m f)], 8, fun k => hdMb k (x.O k), [4, 3, 2]⟩
end
end Go.Proofs.Ytmlfmmnnbdlabaa
