/-
  EpochsPlay: steps: begun: definitions.
-/
import Derived.Test.YtephpkfajobhmaaWBeg
import Derived.Test.YtephpkfajobhmaaWPairDef
import Derived.Test.YtephpkfajobhmaaEvWords
set_option linter.unusedSimpArgs false
set_option linter.unusedVariables false
namespace Go.Proofs.Ytephpkfajobhmaa
open Go.Ev
noncomputable def EEp : Env := envG Try.prog memSP
theorem EEp_ok : EnvOk EEp := envG_ok mgood memSP_ok
def inE (e : Int) : Int := IntKind.u64.wrap (IntKind.u64.wrap (2 * e) + 1)
theorem in_raw {e : Int} (h0 : 0 ≤ e) (h1 : e < 18446744073709551616) : IntKind.u64.wrap ↑(BitVec.ofInt 64 (IntKind.u64.wrap (e * 2)) ||| BitVec.ofInt 64 1).toNat = inE e := by
  have e1 : (BitVec.ofInt 64 (IntKind.u64.wrap (e * 2)) ||| BitVec.ofInt 64 1) = (BitVec.ofInt 64 1 ||| BitVec.ofInt 64 (e % 9223372036854775808 * 2)) := by
    rw [BitVec.or_comm]
    congr 1
    show BitVec.ofInt 64 (e * 2 % 18446744073709551616) = _
    congr 1; omega
  rw [e1]
  have := or_shift 1 (by decide) (x := 1) (y := e % 9223372036854775808) (by decide) (by decide) (by omega) (by simp; omega)
  simp only [Int.pow_one] at this
  rw [this]
  show (1 + e % 9223372036854775808 * 2) % 18446744073709551616 = ((2 * e) % 18446744073709551616 + 1) % 18446744073709551616
  omega
def min4 (x : Int) : Int := if 4 < x then 4 else x
/-- Where a look of an Advance leads. -/
def lkE (S : MS) (e th b : Int) : Int := if (mget S.M (key 8 th 3)) % 2 = 1 ∧ mget S.M (key 8 th 3) ≠ inE e then 0 else if th + 1 = 4 * b then 4 else 3


end Go.Proofs.Ytephpkfajobhmaa
