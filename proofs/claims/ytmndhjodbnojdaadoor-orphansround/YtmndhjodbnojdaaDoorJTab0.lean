/-
  JTab0 and what follows it.
-/
import Derived.Test.YtmndhjodbnojdaaDoorEvDoor
import Derived.Test.YtmndhjodbnojdaaDoorJMemDef
import Derived.Test.YtmndhjodbnojdaaDoorEvBits
/-
  The table of the words' fields.
-/
set_option linter.unusedSimpArgs false
set_option linter.unusedVariables false
namespace Go.Proofs.YtmndhjodbnojdaaDoor
open Go.Ev
def tab : List Value := [.int .u64 0, .int .u64 16, .int .u64 16, .int .u64 32, .int .u64 16, .int .u64 48, .int .u64 0, .int .u64 3, .int .u64 3, .int .u64 32, .int .u64 0, .int .u64 3, .int .u64 3, .int .u64 3, .int .u64 6, .int .u64 3, .int .u64 16, .int .u64 48, .int .u64 0, .int .u64 32, .int .u64 32, .int .u64 1]
end Go.Proofs.YtmndhjodbnojdaaDoor

/-
  Words of blocks: plain facts.
-/
set_option linter.unusedSimpArgs false
set_option linter.unusedVariables false
namespace Go.Ev
theorem or_32 {x y : Int} (hx : 0 ≤ x) (hx1 : x < 4294967296) (hy : 0 ≤ y) (hy1 : y < 4294967296) : ((BitVec.ofInt 64 x ||| BitVec.ofInt 64 (y * 4294967296)).toNat : Int) = x + y * 4294967296 := by simpa using or_shift 32 (by decide) hx (by simpa using hx1) hy (by simp; omega)
theorem bkN_raw {w : Int} (h0 : 0 ≤ w) (h1 : w < 18446744073709551616) : IntKind.u32.wrap (IntKind.u64.wrap ↑(BitVec.ofInt 64 (w.fdiv 1) &&& BitVec.ofInt 64 4294967295).toNat) = bkN w := by
  rw [Int.fdiv_eq_ediv_of_nonneg w (by decide), Int.ediv_one, and_32 h0 h1, u64w (by omega) (by omega), u32m]
  unfold bkN; omega
theorem bkC_raw {w : Int} (h0 : 0 ≤ w) (h1 : w < 18446744073709551616) : (IntKind.u8.wrap (IntKind.u64.wrap ↑(BitVec.ofInt 64 (w.fdiv 4294967296) &&& BitVec.ofInt 64 1).toNat) == 1) = bkC w := by
  rw [Int.fdiv_eq_ediv_of_nonneg w (by decide), and_1 (by omega) (by omega), u64w (by omega) (by omega), u8m]
  unfold bkC
  congr 1
  omega
theorem bk0_raw {n : Int} (h0 : 0 ≤ n) (h1 : n < 4294967296) : IntKind.u64.wrap ↑(BitVec.ofInt 64 0 ||| BitVec.ofInt 64 (IntKind.u64.wrap (IntKind.u64.wrap ↑(BitVec.ofInt 64 (IntKind.u64.wrap n) &&& BitVec.ofInt 64 4294967295).toNat * 1))).toNat = n := by
  rw [u64w (x := n) h0 (by omega), and_32 h0 (by omega), Int.mul_one, u64w (x := n % 4294967296) (by omega) (by omega), u64w (x := n % 4294967296) (by omega) (by omega), or_0 (by omega) (by omega), u64w (by omega) (by omega)]
  omega
theorem bk1_raw {n : Int} (h0 : 0 ≤ n) (h1 : n < 4294967296) : IntKind.u64.wrap ↑(BitVec.ofInt 64 n ||| BitVec.ofInt 64 4294967296).toNat = n + 4294967296 := by
  have := or_32 h0 h1 (y := 1) (by decide) (by decide)
  rw [Int.one_mul] at this
  rw [this, u64w (by omega) (by omega)]
theorem bk_r {n : Int} (h0 : 0 ≤ n) (h1 : n < 4294967296) (c : Bool) : 0 ≤ bk n c ∧ bk n c < 18446744073709551616 := by
  unfold bk; cases c <;> simp <;> omega
theorem bkN_r {w : Int} : 0 ≤ bkN w ∧ bkN w < 4294967296 := by unfold bkN; omega
end Go.Ev
