/-
  BarriersAll: run: definitions.
-/
import Derived.Test.YtmlfmmnnbdlabaaDoorQRnLaw
set_option linter.unusedSimpArgs false
set_option linter.unusedVariables false
namespace Go.Proofs.YtmlfmmnnbdlabaaDoor
open Go.Ev

noncomputable def rncH (nb lk st c0 k0 a0 f0 w0 i0 : Int) (d0 : Bool) (M : List Int → Option Int) (FT : Nat → Nat → AV) : List (Nat × AO) := [(gnm 0, .arr tab.length (tab.map kindOfV) true 1 FT), (1, .cells 9 (.map 2 :: .sym .i64 st :: [.sym .u8 c0, .sym .u8 k0, .sym .i64 a0, .sym .i64 f0, .sym .u64 w0, .sym .u64 i0, .symb d0])), (2, .map 76 M), (3, .cells 9 [.bool true, .bool true, .sym .u64 nb, .sym .i64 lk, .int .i64 0, .int .i64 0, .int .i64 (-1), .int .i64 (-1), .int .i64 0])]
noncomputable def rncR (nb lk st c0 k0 a0 f0 w0 i0 : Int) (d0 : Bool) (M : List Int → Option Int) (FT : Nat → Nat → AV) : LR := ⟨3, .sym .i64 (Int.ofNat (rnK nb lk ⟨M, st, ⟨c0, k0, a0, f0, w0, i0, d0⟩⟩ + 1)), [(gnm 0, .arr tab.length (tab.map kindOfV) true 1 FT), (1, .cells 9 (.map 2 :: .sym .i64 (rnN nb lk (rnAl M) ⟨M, st, ⟨c0, k0, a0, f0, w0, i0, d0⟩⟩ (rnK nb lk ⟨M, st, ⟨c0, k0, a0, f0, w0, i0, d0⟩⟩)).S.st :: (rnN nb lk (rnAl M) ⟨M, st, ⟨c0, k0, a0, f0, w0, i0, d0⟩⟩ (rnK nb lk ⟨M, st, ⟨c0, k0, a0, f0, w0, i0, d0⟩⟩)).S.L.l)), (2, .map 76 M), (3, .cells 9 [.bool true, .bool false, .sym .u64 nb, .sym .i64 (rnN nb lk (rnAl M) ⟨M, st, ⟨c0, k0, a0, f0, w0, i0, d0⟩⟩ (rnK nb lk ⟨M, st, ⟨c0, k0, a0, f0, w0, i0, d0⟩⟩)).x.lk, .sym .i64 (rnN nb lk (rnAl M) ⟨M, st, ⟨c0, k0, a0, f0, w0, i0, d0⟩⟩ (rnK nb lk ⟨M, st, ⟨c0, k0, a0, f0, w0, i0, d0⟩⟩)).x.th, .sym .i64 (rnAl M), .sym .i64 (rnN nb lk (rnAl M) ⟨M, st, ⟨c0, k0, a0, f0, w0, i0, d0⟩⟩ (rnK nb lk ⟨M, st, ⟨c0, k0, a0, f0, w0, i0, d0⟩⟩)).x.at_, .sym .i64 (rnN nb lk (rnAl M) ⟨M, st, ⟨c0, k0, a0, f0, w0, i0, d0⟩⟩ (rnK nb lk ⟨M, st, ⟨c0, k0, a0, f0, w0, i0, d0⟩⟩)).x.wt, .sym .i64 (rnN nb lk (rnAl M) ⟨M, st, ⟨c0, k0, a0, f0, w0, i0, d0⟩⟩ (rnK nb lk ⟨M, st, ⟨c0, k0, a0, f0, w0, i0, d0⟩⟩)).x.en])], 0, [1, 2, 3], [FT = tabF tab, 0 ≤ mget M (key 5 0 0), 1 ≤ lk ∧ lk ≤ 60]⟩
end Go.Proofs.YtmlfmmnnbdlabaaDoor
