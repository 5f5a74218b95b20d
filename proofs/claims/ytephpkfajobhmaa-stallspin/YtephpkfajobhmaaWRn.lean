/-
  StallsPin: its run.
-/
import Derived.Test.YtephpkfajobhmaaWPn
import Derived.Test.YtephpkfajobhmaaL18
import Derived.Test.YtephpkfajobhmaaWPair
import Derived.Test.YtephpkfajobhmaaEvDoor
set_option linter.unusedSimpArgs false
set_option linter.unusedVariables false
namespace Go.Proofs.Ytephpkfajobhmaa
open Go.Ev
def snS (S : MS) : MS := ⟨S.M, itW 41 S.st, ⟨1, 8, 3, 9, mget S.M (key 8 3 9), mget S.M (key 8 3 9), false⟩⟩
def spS0 (e : Int) : MS := ⟨bgm e, itW 41 6, ⟨1, 8, 3, 9, mget (bgm e) (key 8 3 9), mget (bgm e) (key 8 3 9), false⟩⟩
noncomputable def spF (era m0 : Int) : Int := mget (bmpN (m0.tmod 3).toNat (spS0 (era.tmod 1099511627776))).M (key 2 0 0)
noncomputable def spW (who : Int) : Int := IntKind.i64.wrap (who.tmod 4)
noncomputable def spS1 (era m0 m1 m2 m3 who : Int) : MS := snS (mStore (mLoad (bmpN (m0.tmod 3).toNat (spS0 (era.tmod 1099511627776))) 2 0 0) 8 (spW who) 6 18446744073709551615)
noncomputable def spA1 (era m0 m1 m2 m3 who : Int) : MS := bmpN (m1.tmod 3).toNat (spS1 era m0 m1 m2 m3 who)
noncomputable def spE (era m0 m1 m2 m3 who : Int) : Int := mget (spA1 era m0 m1 m2 m3 who).M (key 2 0 0)
noncomputable def spS2 (era m0 m1 m2 m3 who : Int) : MS := snS (mLoad (spA1 era m0 m1 m2 m3 who) 2 0 0)
noncomputable def spS3 (era m0 m1 m2 m3 who : Int) : MS := snS (mStore (bmpN (m2.tmod 3).toNat (spS2 era m0 m1 m2 m3 who)) 8 (spW who) 6 (IntKind.u64.wrap (spE era m0 m1 m2 m3 who + 1)))
noncomputable def spS4 (era m0 m1 m2 m3 who : Int) : MS := snS (mCas (bmpN (m3.tmod 3).toNat (spS3 era m0 m1 m2 m3 who)) 2 0 0 (spE era m0 m1 m2 m3 who) (IntKind.u64.wrap (spE era m0 m1 m2 m3 who + 1)))
noncomputable def ESp : Env := envG Try.prog ([(34, rawSP l18Spec), (40, locSP bgnSpec), (42, locSP snSpec), (37, locSP szQSpec), (35, locSP flSpec)] ++ memSP)
theorem ESp_ok : EnvOk ESp := envG_ok mgood ⟨rawSP_ok l18Spec_ok, locSP_ok bgnSpec_ok, locSP_ok snSpec_ok, locSP_ok szQSpec_ok, locSP_ok flSpec_ok, memSP_ok⟩
noncomputable def spRun (era m0 m1 m2 m3 who : Int) (h : List Hint) : Option (AV × List Prop × Bool) := (callF ESp 5000 8 [.sym .u64 era, .agg [.sym .u8 m0, .sym .u8 m1, .sym .u8 m2, .sym .u8 m3], .sym .u8 who] ⟨[], 1, gnm 0, h, [], [], false⟩).map (fun x => (x.1, x.2.ob, noneIn [] x.2.wr))
set_option maxRecDepth 100000 in
theorem sp_run (era m0 m1 m2 m3 who : Int) : (callF ESp 5000 8 [.sym .u64 era, .agg [.sym .u8 m0, .sym .u8 m1, .sym .u8 m2, .sym .u8 m3], .sym .u8 who] ⟨[], 1, gnm 0, [Hint.b false, Hint.b false, Hint.b false, Hint.a AV.top, Hint.lpl [2, 4, 8, 9, 10, 11, 12] [1, 2, 3, 4] 3 (Ex.exit 2) (sb0X m0 m1 m2 m3 who (spF era m0) (spS0 (era.tmod 1099511627776)) (m0.tmod 3).toNat).tmps (sb0X m0 m1 m2 m3 who (spF era m0) (spS0 (era.tmod 1099511627776)) (m0.tmod 3).toNat).hp.heap 0 [2, 3], Hint.b false, Hint.b false, Hint.b false, Hint.b false, Hint.lpl [2, 4, 8, 9, 10, 11, 12] [1, 2, 3, 4] 3 (Ex.exit 2) (sb1X m0 m1 m2 m3 who (spF era m0) (spS1 era m0 m1 m2 m3 who) (m1.tmod 3).toNat).tmps (sb1X m0 m1 m2 m3 who (spF era m0) (spS1 era m0 m1 m2 m3 who) (m1.tmod 3).toNat).hp.heap 0 [2, 3], Hint.b false, Hint.b false, Hint.b false, Hint.b false, Hint.lpl [2, 4, 8, 9, 10, 11, 12] [1, 2, 3, 4] 3 (Ex.exit 2) (sb2X m0 m1 m2 m3 who (spF era m0) (spS2 era m0 m1 m2 m3 who) (m2.tmod 3).toNat).tmps (sb2X m0 m1 m2 m3 who (spF era m0) (spS2 era m0 m1 m2 m3 who) (m2.tmod 3).toNat).hp.heap 0 [2, 3], Hint.b false, Hint.b false, Hint.b false, Hint.b false, Hint.lpl [2, 4, 8, 9, 10, 11, 12] [1, 2, 3, 4] 3 (Ex.exit 2) (sb3X m0 m1 m2 m3 who (spF era m0) (spS3 era m0 m1 m2 m3 who) (m3.tmod 3).toNat).tmps (sb3X m0 m1 m2 m3 who (spF era m0) (spS3 era m0 m1 m2 m3 who) (m3.tmod 3).toNat).hp.heap 0 [2, 3], Hint.b false, Hint.b false, Hint.b false, Hint.b false, Hint.b false, Hint.b false, Hint.b true, Hint.b true], [], [], false⟩).map (fun x => (x.1, x.2.ob, noneIn [] x.2.wr)) = some (AV.bool true, [(Int.ofNat (fl (thOf (snRow (memPut (casM (bmpN (m3.tmod 3).toNat (spS3 era m0 m1 m2 m3 who)).M 2 0 0 (mget (bmpN (m1.tmod 3).toNat (spS1 era m0 m1 m2 m3 who)).M (key 2 0 0)) (IntKind.u64.wrap (mget (bmpN (m1.tmod 3).toNat (spS1 era m0 m1 m2 m3 who)).M (key 2 0 0) + 1))) 8 (IntKind.i64.wrap (who.tmod 4)) 6 0))) 4).length == 0) = true,
 (4 : Nat) ≤ (4 : Nat),
 (4 : Nat) ≤ (100000 : Nat),
 (!pinB 4 (snRow (memPut (casM (bmpN (m3.tmod 3).toNat (spS3 era m0 m1 m2 m3 who)).M 2 0 0 (mget (bmpN (m1.tmod 3).toNat (spS1 era m0 m1 m2 m3 who)).M (key 2 0 0)) (IntKind.u64.wrap (mget (bmpN (m1.tmod 3).toNat (spS1 era m0 m1 m2 m3 who)).M (key 2 0 0) + 1))) 8 (IntKind.i64.wrap (who.tmod 4)) 6 0)) 0) = true,
 (4 : Nat) ≤ (4 : Nat),
 (4 : Nat) ≤ (1000000 : Nat),
 mget (memPut (casM (bmpN (m3.tmod 3).toNat (spS3 era m0 m1 m2 m3 who)).M 2 0 0 (mget (bmpN (m1.tmod 3).toNat (spS1 era m0 m1 m2 m3 who)).M (key 2 0 0)) (IntKind.u64.wrap (mget (bmpN (m1.tmod 3).toNat (spS1 era m0 m1 m2 m3 who)).M (key 2 0 0) + 1))) 8 (IntKind.i64.wrap (who.tmod 4)) 6 0) (key 5 0 0) = 1,
 ∀ (i : Int), 0 ≤ i → i < 4 → mget (memPut (casM (bmpN (m3.tmod 3).toNat (spS3 era m0 m1 m2 m3 who)).M 2 0 0 (mget (bmpN (m1.tmod 3).toNat (spS1 era m0 m1 m2 m3 who)).M (key 2 0 0)) (IntKind.u64.wrap (mget (bmpN (m1.tmod 3).toNat (spS1 era m0 m1 m2 m3 who)).M (key 2 0 0) + 1))) 8 (IntKind.i64.wrap (who.tmod 4)) 6 0) (key 8 i 0) = 1,
 (0 : Int) ≤ (8 : Int),
 pinB 4 (snRow (casM (bmpN (m3.tmod 3).toNat (spS3 era m0 m1 m2 m3 who)).M 2 0 0 (mget (bmpN (m1.tmod 3).toNat (spS1 era m0 m1 m2 m3 who)).M (key 2 0 0)) (IntKind.u64.wrap (mget (bmpN (m1.tmod 3).toNat (spS1 era m0 m1 m2 m3 who)).M (key 2 0 0) + 1)))) (mget (casM (bmpN (m3.tmod 3).toNat (spS3 era m0 m1 m2 m3 who)).M 2 0 0 (mget (bmpN (m1.tmod 3).toNat (spS1 era m0 m1 m2 m3 who)).M (key 2 0 0)) (IntKind.u64.wrap (mget (bmpN (m1.tmod 3).toNat (spS1 era m0 m1 m2 m3 who)).M (key 2 0 0) + 1))) (key 2 0 0)) = false,
 (4 : Nat) ≤ (4 : Nat),
 (4 : Nat) ≤ (1000000 : Nat),
 decide (mget (casM (bmpN (m3.tmod 3).toNat (spS3 era m0 m1 m2 m3 who)).M 2 0 0 (mget (bmpN (m1.tmod 3).toNat (spS1 era m0 m1 m2 m3 who)).M (key 2 0 0)) (IntKind.u64.wrap (mget (bmpN (m1.tmod 3).toNat (spS1 era m0 m1 m2 m3 who)).M (key 2 0 0) + 1))) (key 2 0 0) ≤ spF era m0) = false,
 mget (casM (bmpN (m3.tmod 3).toNat (spS3 era m0 m1 m2 m3 who)).M 2 0 0 (mget (bmpN (m1.tmod 3).toNat (spS1 era m0 m1 m2 m3 who)).M (key 2 0 0)) (IntKind.u64.wrap (mget (bmpN (m1.tmod 3).toNat (spS1 era m0 m1 m2 m3 who)).M (key 2 0 0) + 1))) (key 5 0 0) = 1,
 ∀ (i : Int), 0 ≤ i → i < 4 → mget (casM (bmpN (m3.tmod 3).toNat (spS3 era m0 m1 m2 m3 who)).M 2 0 0 (mget (bmpN (m1.tmod 3).toNat (spS1 era m0 m1 m2 m3 who)).M (key 2 0 0)) (IntKind.u64.wrap (mget (bmpN (m1.tmod 3).toNat (spS1 era m0 m1 m2 m3 who)).M (key 2 0 0) + 1))) (key 8 i 0) = 1,
 (Int.ofNat ((fl (thOf (snRow (casM (bmpN (m3.tmod 3).toNat (spS3 era m0 m1 m2 m3 who)).M 2 0 0 (mget (bmpN (m1.tmod 3).toNat (spS1 era m0 m1 m2 m3 who)).M (key 2 0 0)) (IntKind.u64.wrap (mget (bmpN (m1.tmod 3).toNat (spS1 era m0 m1 m2 m3 who)).M (key 2 0 0) + 1))))) 4)[0]?.getD 0) != IntKind.i64.wrap (who.tmod 4)) = false,
 Nat.blt 0 (fl (thOf (snRow (casM (bmpN (m3.tmod 3).toNat (spS3 era m0 m1 m2 m3 who)).M 2 0 0 (mget (bmpN (m1.tmod 3).toNat (spS1 era m0 m1 m2 m3 who)).M (key 2 0 0)) (IntKind.u64.wrap (mget (bmpN (m1.tmod 3).toNat (spS1 era m0 m1 m2 m3 who)).M (key 2 0 0) + 1))))) 4).length = true,
 (Nat.blt (0 : Nat) (fl (thOf (snRow (casM (bmpN (m3.tmod (3 : Int)).toNat (spS3 era m0 m1 m2 m3 who)).M (2 : Int) (0 : Int) (0 : Int) (mget (bmpN (m1.tmod (3 : Int)).toNat (spS1 era m0 m1 m2 m3 who)).M (key (2 : Int) (0 : Int) (0 : Int))) (IntKind.u64.wrap (mget (bmpN (m1.tmod (3 : Int)).toNat (spS1 era m0 m1 m2 m3 who)).M (key (2 : Int) (0 : Int) (0 : Int)) + (1 : Int)))))) (4 : Nat)).length && decide ((0 : Int) ≤ (0 : Int))) = true,
 (Int.ofNat (fl (thOf (snRow (casM (bmpN (m3.tmod 3).toNat (spS3 era m0 m1 m2 m3 who)).M 2 0 0 (mget (bmpN (m1.tmod 3).toNat (spS1 era m0 m1 m2 m3 who)).M (key 2 0 0)) (IntKind.u64.wrap (mget (bmpN (m1.tmod 3).toNat (spS1 era m0 m1 m2 m3 who)).M (key 2 0 0) + 1))))) 4).length != 1) = false,
 (!pinB 4 (snRow (casM (bmpN (m3.tmod 3).toNat (spS3 era m0 m1 m2 m3 who)).M 2 0 0 (mget (bmpN (m1.tmod 3).toNat (spS1 era m0 m1 m2 m3 who)).M (key 2 0 0)) (IntKind.u64.wrap (mget (bmpN (m1.tmod 3).toNat (spS1 era m0 m1 m2 m3 who)).M (key 2 0 0) + 1)))) 0) = false,
 (4 : Nat) ≤ (4 : Nat),
 (4 : Nat) ≤ (1000000 : Nat),
 (!pinB 4 (snRow (casM (bmpN (m3.tmod 3).toNat (spS3 era m0 m1 m2 m3 who)).M 2 0 0 (mget (bmpN (m1.tmod 3).toNat (spS1 era m0 m1 m2 m3 who)).M (key 2 0 0)) (IntKind.u64.wrap (mget (bmpN (m1.tmod 3).toNat (spS1 era m0 m1 m2 m3 who)).M (key 2 0 0) + 1)))) (spF era m0)) = false,
 (4 : Nat) ≤ (4 : Nat),
 (4 : Nat) ≤ (1000000 : Nat),
 (4 : Nat) ≤ (4 : Nat),
 (4 : Nat) ≤ (100000 : Nat),
 mget (casM (bmpN (m3.tmod 3).toNat (spS3 era m0 m1 m2 m3 who)).M 2 0 0 (mget (bmpN (m1.tmod 3).toNat (spS1 era m0 m1 m2 m3 who)).M (key 2 0 0)) (IntKind.u64.wrap (mget (bmpN (m1.tmod 3).toNat (spS1 era m0 m1 m2 m3 who)).M (key 2 0 0) + 1))) (key 5 0 0) = 1,
 ∀ (i : Int), 0 ≤ i → i < 4 → mget (casM (bmpN (m3.tmod 3).toNat (spS3 era m0 m1 m2 m3 who)).M 2 0 0 (mget (bmpN (m1.tmod 3).toNat (spS1 era m0 m1 m2 m3 who)).M (key 2 0 0)) (IntKind.u64.wrap (mget (bmpN (m1.tmod 3).toNat (spS1 era m0 m1 m2 m3 who)).M (key 2 0 0) + 1))) (key 8 i 0) = 1,
 (0 : Int) ≤ (2 : Int),
 sb3LP m0 m1 m2 m3 who (spF era m0) (spS3 era m0 m1 m2 m3 who),
 (Int.ofNat ((fl (thOf (snRow (memPut (bmpN (m2.tmod 3).toNat (spS2 era m0 m1 m2 m3 who)).M 8 (IntKind.i64.wrap (who.tmod 4)) 6 (IntKind.u64.wrap (mget (bmpN (m1.tmod 3).toNat (spS1 era m0 m1 m2 m3 who)).M (key 2 0 0) + 1))))) 4)[0]?.getD 0) != IntKind.i64.wrap (who.tmod 4)) = false,
 Nat.blt 0 (fl (thOf (snRow (memPut (bmpN (m2.tmod 3).toNat (spS2 era m0 m1 m2 m3 who)).M 8 (IntKind.i64.wrap (who.tmod 4)) 6 (IntKind.u64.wrap (mget (bmpN (m1.tmod 3).toNat (spS1 era m0 m1 m2 m3 who)).M (key 2 0 0) + 1))))) 4).length = true,
 (Nat.blt (0 : Nat) (fl (thOf (snRow (memPut (bmpN (m2.tmod (3 : Int)).toNat (spS2 era m0 m1 m2 m3 who)).M (8 : Int) (IntKind.i64.wrap (who.tmod (4 : Int))) (6 : Int) (IntKind.u64.wrap (mget (bmpN (m1.tmod (3 : Int)).toNat (spS1 era m0 m1 m2 m3 who)).M (key (2 : Int) (0 : Int) (0 : Int)) + (1 : Int)))))) (4 : Nat)).length && decide ((0 : Int) ≤ (0 : Int))) = true,
 (Int.ofNat (fl (thOf (snRow (memPut (bmpN (m2.tmod 3).toNat (spS2 era m0 m1 m2 m3 who)).M 8 (IntKind.i64.wrap (who.tmod 4)) 6 (IntKind.u64.wrap (mget (bmpN (m1.tmod 3).toNat (spS1 era m0 m1 m2 m3 who)).M (key 2 0 0) + 1))))) 4).length != 1) = false,
 (!pinB 4 (snRow (memPut (bmpN (m2.tmod 3).toNat (spS2 era m0 m1 m2 m3 who)).M 8 (IntKind.i64.wrap (who.tmod 4)) 6 (IntKind.u64.wrap (mget (bmpN (m1.tmod 3).toNat (spS1 era m0 m1 m2 m3 who)).M (key 2 0 0) + 1)))) 0) = false,
 (4 : Nat) ≤ (4 : Nat),
 (4 : Nat) ≤ (1000000 : Nat),
 (!pinB 4 (snRow (memPut (bmpN (m2.tmod 3).toNat (spS2 era m0 m1 m2 m3 who)).M 8 (IntKind.i64.wrap (who.tmod 4)) 6 (IntKind.u64.wrap (mget (bmpN (m1.tmod 3).toNat (spS1 era m0 m1 m2 m3 who)).M (key 2 0 0) + 1)))) (spF era m0)) = false,
 (4 : Nat) ≤ (4 : Nat),
 (4 : Nat) ≤ (1000000 : Nat),
 (4 : Nat) ≤ (4 : Nat),
 (4 : Nat) ≤ (100000 : Nat),
 mget (memPut (bmpN (m2.tmod 3).toNat (spS2 era m0 m1 m2 m3 who)).M 8 (IntKind.i64.wrap (who.tmod 4)) 6 (IntKind.u64.wrap (mget (bmpN (m1.tmod 3).toNat (spS1 era m0 m1 m2 m3 who)).M (key 2 0 0) + 1))) (key 5 0 0) = 1,
 ∀ (i : Int), 0 ≤ i → i < 4 → mget (memPut (bmpN (m2.tmod 3).toNat (spS2 era m0 m1 m2 m3 who)).M 8 (IntKind.i64.wrap (who.tmod 4)) 6 (IntKind.u64.wrap (mget (bmpN (m1.tmod 3).toNat (spS1 era m0 m1 m2 m3 who)).M (key 2 0 0) + 1))) (key 8 i 0) = 1,
 (0 : Int) ≤ (8 : Int),
 sb2LP m0 m1 m2 m3 who (spF era m0) (spS2 era m0 m1 m2 m3 who),
 (Int.ofNat ((fl (thOf (snRow (bmpN (m1.tmod 3).toNat (spS1 era m0 m1 m2 m3 who)).M)) 4)[0]?.getD 0) != IntKind.i64.wrap (who.tmod 4)) = false,
 Nat.blt 0 (fl (thOf (snRow (bmpN (m1.tmod 3).toNat (spS1 era m0 m1 m2 m3 who)).M)) 4).length = true,
 (Nat.blt (0 : Nat) (fl (thOf (snRow (bmpN (m1.tmod (3 : Int)).toNat (spS1 era m0 m1 m2 m3 who)).M)) (4 : Nat)).length && decide ((0 : Int) ≤ (0 : Int))) = true,
 (Int.ofNat (fl (thOf (snRow (bmpN (m1.tmod 3).toNat (spS1 era m0 m1 m2 m3 who)).M)) 4).length != 1) = false,
 (!pinB 4 (snRow (bmpN (m1.tmod 3).toNat (spS1 era m0 m1 m2 m3 who)).M) 0) = false,
 (4 : Nat) ≤ (4 : Nat),
 (4 : Nat) ≤ (1000000 : Nat),
 (!pinB 4 (snRow (bmpN (m1.tmod 3).toNat (spS1 era m0 m1 m2 m3 who)).M) (spF era m0)) = false,
 (4 : Nat) ≤ (4 : Nat),
 (4 : Nat) ≤ (1000000 : Nat),
 (4 : Nat) ≤ (4 : Nat),
 (4 : Nat) ≤ (100000 : Nat),
 mget (bmpN (m1.tmod 3).toNat (spS1 era m0 m1 m2 m3 who)).M (key 5 0 0) = 1,
 ∀ (i : Int), 0 ≤ i → i < 4 → mget (bmpN (m1.tmod 3).toNat (spS1 era m0 m1 m2 m3 who)).M (key 8 i 0) = 1,
 sb1LP m0 m1 m2 m3 who (spF era m0) (spS1 era m0 m1 m2 m3 who),
 (Int.ofNat ((fl (thOf (snRow (memPut (bmpN (m0.tmod 3).toNat (spS0 (era.tmod 1099511627776))).M 8 (IntKind.i64.wrap (who.tmod 4)) 6 18446744073709551615))) 4)[0]?.getD 0) != IntKind.i64.wrap (who.tmod 4)) = false,
 Nat.blt 0 (fl (thOf (snRow (memPut (bmpN (m0.tmod 3).toNat (spS0 (era.tmod 1099511627776))).M 8 (IntKind.i64.wrap (who.tmod 4)) 6 18446744073709551615))) 4).length = true,
 (Nat.blt (0 : Nat) (fl (thOf (snRow (memPut (bmpN (m0.tmod (3 : Int)).toNat (spS0 (era.tmod (1099511627776 : Int)))).M (8 : Int) (IntKind.i64.wrap (who.tmod (4 : Int))) (6 : Int) (18446744073709551615 : Int)))) (4 : Nat)).length && decide ((0 : Int) ≤ (0 : Int))) = true,
 (Int.ofNat (fl (thOf (snRow (memPut (bmpN (m0.tmod 3).toNat (spS0 (era.tmod 1099511627776))).M 8 (IntKind.i64.wrap (who.tmod 4)) 6 18446744073709551615))) 4).length != 1) = false,
 (!pinB 4 (snRow (memPut (bmpN (m0.tmod 3).toNat (spS0 (era.tmod 1099511627776))).M 8 (IntKind.i64.wrap (who.tmod 4)) 6 18446744073709551615)) 0) = false,
 (4 : Nat) ≤ (4 : Nat),
 (4 : Nat) ≤ (1000000 : Nat),
 (!pinB 4 (snRow (memPut (bmpN (m0.tmod 3).toNat (spS0 (era.tmod 1099511627776))).M 8 (IntKind.i64.wrap (who.tmod 4)) 6 18446744073709551615)) (mget (bmpN (m0.tmod 3).toNat (spS0 (era.tmod 1099511627776))).M (key 2 0 0))) = false,
 (4 : Nat) ≤ (4 : Nat),
 (4 : Nat) ≤ (1000000 : Nat),
 (4 : Nat) ≤ (4 : Nat),
 (4 : Nat) ≤ (100000 : Nat),
 mget (memPut (bmpN (m0.tmod 3).toNat (spS0 (era.tmod 1099511627776))).M 8 (IntKind.i64.wrap (who.tmod 4)) 6 18446744073709551615) (key 5 0 0) = 1,
 ∀ (i : Int), 0 ≤ i → i < 4 → mget (memPut (bmpN (m0.tmod 3).toNat (spS0 (era.tmod 1099511627776))).M 8 (IntKind.i64.wrap (who.tmod 4)) 6 18446744073709551615) (key 8 i 0) = 1,
 (0 : Int) ≤ (8 : Int),
 sb0LP m0 m1 m2 m3 who (spF era m0) (spS0 (era.tmod 1099511627776)),
 pinB 4 (snRow (bgm (era.tmod 1099511627776))) 0 = false,
 (4 : Nat) ≤ (4 : Nat),
 (4 : Nat) ≤ (1000000 : Nat),
 (1 : Int) = 1,
 ∀ (i : Int), 0 ≤ i → i < 4 → mget (bgm (era.tmod 1099511627776)) (key 8 i 0) = 1,
 decide (IntKind.i64.wrap (who.tmod 4) ≥ 16) = false,
 decide (IntKind.i64.wrap (who.tmod 4) < 0) = false], true) := by kernel_rfl
end Go.Proofs.Ytephpkfajobhmaa
