/-
  StallsPin: bumps: definitions.
-/
import Derived.Test.YtephpkfajobhmaaWBeg
import Derived.Test.YtephpkfajobhmaaWPair
import Derived.Test.YtephpkfajobhmaaEvWords
set_option linter.unusedSimpArgs false
set_option linter.unusedVariables false
namespace Go.Proofs.Ytephpkfajobhmaa
open Go.Ev
noncomputable def ESb : Env := envG Try.prog memSP
theorem ESb_ok : EnvOk ESb := envG_ok mgood memSP_ok
/-- A bump by one alone. -/
def bmp1 (S : MS) : MS := mCas (mLoad S 2 0 0) 2 0 0 (mget S.M (key 2 0 0)) (IntKind.u64.wrap (mget S.M (key 2 0 0) + 1))
def bmpN : Nat → MS → MS
  | 0, S => S
  | n + 1, S => bmp1 (bmpN n S)

noncomputable def sb0U (m0 m1 m2 m3 who fi : Int) (S : MS) : St := ⟨[.top, .top, .sym .u8 who, .top, .ptr 1 0 0, .top, .top, .top, .ptr 2 0 0, .ptr 4 0 0, .int .u64 0, .int .i64 0, .int .i64 0] ++ List.replicate 112 .top, ⟨[(1, .cells 4 [.sym .u8 m0, .sym .u8 m1, .sym .u8 m2, .sym .u8 m3]), (2, .cells 9 (.map 3 :: lsL (bmpN 0 S).st (bmpN 0 S).L)), (3, .map 26 (bmpN 0 S).M)], 5, gnm 0, [], [], [], false⟩⟩
noncomputable def sb0T (m0 m1 m2 m3 who fi : Int) (S : MS) (i : Nat) : St := ⟨[.top, .top, .sym .u8 who, .top, .ptr 1 0 0, .top, .top, .top, .ptr 2 0 0, .ptr 4 0 0, .int .u64 0, .int .i64 0, .sym .i64 (Int.ofNat i)] ++ List.replicate 112 .top, ⟨[(1, .cells 4 [.sym .u8 m0, .sym .u8 m1, .sym .u8 m2, .sym .u8 m3]), (2, .cells 9 (.map 3 :: lsL (bmpN i S).st (bmpN i S).L)), (3, .map 26 (bmpN i S).M)], 5, gnm 0, [], [], [2, 3], false⟩⟩
noncomputable def sb0X (m0 m1 m2 m3 who fi : Int) (S : MS) (i : Nat) : St := ⟨[.top, .top, .sym .u8 who, .top, .ptr 1 0 0, .top, .top, .top, .ptr 2 0 0, .ptr 4 0 0, .int .u64 0, .int .i64 0] ++ List.replicate 113 .top, ⟨[(1, .cells 4 [.sym .u8 m0, .sym .u8 m1, .sym .u8 m2, .sym .u8 m3]), (2, .cells 9 (.map 3 :: lsL (bmpN i S).st (bmpN i S).L)), (3, .map 26 (bmpN i S).M)], 5, gnm 0, [], [], [2, 3], false⟩⟩
noncomputable abbrev sb0L : Code := loopAt Try.prog 8 1
noncomputable def sb0LP (m0 m1 m2 m3 who fi : Int) (S : MS) : Prop := LoopHolds Try.prog sb0L (sb0U m0 m1 m2 m3 who fi S) (.exit 2) (sb0X m0 m1 m2 m3 who fi S (m0.tmod 3).toNat)
noncomputable def sb1U (m0 m1 m2 m3 who fi : Int) (S : MS) : St := ⟨[.top, .top, .sym .u8 who, .top, .ptr 1 0 0, .top, .top, .top, .ptr 2 0 0, .ptr 4 0 0, .sym .u64 fi, .int .i64 1, .int .i64 0] ++ List.replicate 112 .top, ⟨[(1, .cells 4 [.sym .u8 m0, .sym .u8 m1, .sym .u8 m2, .sym .u8 m3]), (2, .cells 9 (.map 3 :: lsL (bmpN 0 S).st (bmpN 0 S).L)), (3, .map 26 (bmpN 0 S).M)], 5, gnm 0, [], [], [], false⟩⟩
noncomputable def sb1T (m0 m1 m2 m3 who fi : Int) (S : MS) (i : Nat) : St := ⟨[.top, .top, .sym .u8 who, .top, .ptr 1 0 0, .top, .top, .top, .ptr 2 0 0, .ptr 4 0 0, .sym .u64 fi, .int .i64 1, .sym .i64 (Int.ofNat i)] ++ List.replicate 112 .top, ⟨[(1, .cells 4 [.sym .u8 m0, .sym .u8 m1, .sym .u8 m2, .sym .u8 m3]), (2, .cells 9 (.map 3 :: lsL (bmpN i S).st (bmpN i S).L)), (3, .map 26 (bmpN i S).M)], 5, gnm 0, [], [], [2, 3], false⟩⟩
noncomputable def sb1X (m0 m1 m2 m3 who fi : Int) (S : MS) (i : Nat) : St := ⟨[.top, .top, .sym .u8 who, .top, .ptr 1 0 0, .top, .top, .top, .ptr 2 0 0, .ptr 4 0 0, .sym .u64 fi, .int .i64 1] ++ List.replicate 113 .top, ⟨[(1, .cells 4 [.sym .u8 m0, .sym .u8 m1, .sym .u8 m2, .sym .u8 m3]), (2, .cells 9 (.map 3 :: lsL (bmpN i S).st (bmpN i S).L)), (3, .map 26 (bmpN i S).M)], 5, gnm 0, [], [], [2, 3], false⟩⟩
noncomputable abbrev sb1L : Code := loopAt Try.prog 8 1
noncomputable def sb1LP (m0 m1 m2 m3 who fi : Int) (S : MS) : Prop := LoopHolds Try.prog sb1L (sb1U m0 m1 m2 m3 who fi S) (.exit 2) (sb1X m0 m1 m2 m3 who fi S (m1.tmod 3).toNat)
noncomputable def sb2U (m0 m1 m2 m3 who fi : Int) (S : MS) : St := ⟨[.top, .top, .sym .u8 who, .top, .ptr 1 0 0, .top, .top, .top, .ptr 2 0 0, .ptr 4 0 0, .sym .u64 fi, .int .i64 2, .int .i64 0] ++ List.replicate 112 .top, ⟨[(1, .cells 4 [.sym .u8 m0, .sym .u8 m1, .sym .u8 m2, .sym .u8 m3]), (2, .cells 9 (.map 3 :: lsL (bmpN 0 S).st (bmpN 0 S).L)), (3, .map 26 (bmpN 0 S).M)], 5, gnm 0, [], [], [], false⟩⟩
noncomputable def sb2T (m0 m1 m2 m3 who fi : Int) (S : MS) (i : Nat) : St := ⟨[.top, .top, .sym .u8 who, .top, .ptr 1 0 0, .top, .top, .top, .ptr 2 0 0, .ptr 4 0 0, .sym .u64 fi, .int .i64 2, .sym .i64 (Int.ofNat i)] ++ List.replicate 112 .top, ⟨[(1, .cells 4 [.sym .u8 m0, .sym .u8 m1, .sym .u8 m2, .sym .u8 m3]), (2, .cells 9 (.map 3 :: lsL (bmpN i S).st (bmpN i S).L)), (3, .map 26 (bmpN i S).M)], 5, gnm 0, [], [], [2, 3], false⟩⟩
noncomputable def sb2X (m0 m1 m2 m3 who fi : Int) (S : MS) (i : Nat) : St := ⟨[.top, .top, .sym .u8 who, .top, .ptr 1 0 0, .top, .top, .top, .ptr 2 0 0, .ptr 4 0 0, .sym .u64 fi, .int .i64 2] ++ List.replicate 113 .top, ⟨[(1, .cells 4 [.sym .u8 m0, .sym .u8 m1, .sym .u8 m2, .sym .u8 m3]), (2, .cells 9 (.map 3 :: lsL (bmpN i S).st (bmpN i S).L)), (3, .map 26 (bmpN i S).M)], 5, gnm 0, [], [], [2, 3], false⟩⟩
noncomputable abbrev sb2L : Code := loopAt Try.prog 8 1
noncomputable def sb2LP (m0 m1 m2 m3 who fi : Int) (S : MS) : Prop := LoopHolds Try.prog sb2L (sb2U m0 m1 m2 m3 who fi S) (.exit 2) (sb2X m0 m1 m2 m3 who fi S (m2.tmod 3).toNat)
noncomputable def sb3U (m0 m1 m2 m3 who fi : Int) (S : MS) : St := ⟨[.top, .top, .sym .u8 who, .top, .ptr 1 0 0, .top, .top, .top, .ptr 2 0 0, .ptr 4 0 0, .sym .u64 fi, .int .i64 3, .int .i64 0] ++ List.replicate 112 .top, ⟨[(1, .cells 4 [.sym .u8 m0, .sym .u8 m1, .sym .u8 m2, .sym .u8 m3]), (2, .cells 9 (.map 3 :: lsL (bmpN 0 S).st (bmpN 0 S).L)), (3, .map 26 (bmpN 0 S).M)], 5, gnm 0, [], [], [], false⟩⟩
noncomputable def sb3T (m0 m1 m2 m3 who fi : Int) (S : MS) (i : Nat) : St := ⟨[.top, .top, .sym .u8 who, .top, .ptr 1 0 0, .top, .top, .top, .ptr 2 0 0, .ptr 4 0 0, .sym .u64 fi, .int .i64 3, .sym .i64 (Int.ofNat i)] ++ List.replicate 112 .top, ⟨[(1, .cells 4 [.sym .u8 m0, .sym .u8 m1, .sym .u8 m2, .sym .u8 m3]), (2, .cells 9 (.map 3 :: lsL (bmpN i S).st (bmpN i S).L)), (3, .map 26 (bmpN i S).M)], 5, gnm 0, [], [], [2, 3], false⟩⟩
noncomputable def sb3X (m0 m1 m2 m3 who fi : Int) (S : MS) (i : Nat) : St := ⟨[.top, .top, .sym .u8 who, .top, .ptr 1 0 0, .top, .top, .top, .ptr 2 0 0, .ptr 4 0 0, .sym .u64 fi, .int .i64 3] ++ List.replicate 113 .top, ⟨[(1, .cells 4 [.sym .u8 m0, .sym .u8 m1, .sym .u8 m2, .sym .u8 m3]), (2, .cells 9 (.map 3 :: lsL (bmpN i S).st (bmpN i S).L)), (3, .map 26 (bmpN i S).M)], 5, gnm 0, [], [], [2, 3], false⟩⟩
noncomputable abbrev sb3L : Code := loopAt Try.prog 8 1
noncomputable def sb3LP (m0 m1 m2 m3 who fi : Int) (S : MS) : Prop := LoopHolds Try.prog sb3L (sb3U m0 m1 m2 m3 who fi S) (.exit 2) (sb3X m0 m1 m2 m3 who fi S (m3.tmod 3).toNat)
end Go.Proofs.Ytephpkfajobhmaa
