/-
  Words of refs: definitions.
-/
import Derived.Test.YtljeiencnpnbkaaDoorUWd
set_option linter.unusedSimpArgs false
set_option linter.unusedVariables false
namespace Go.Proofs.YtljeiencnpnbkaaDoor
open Go.Ev
/-- A word without its mark. -/
def hUn (w : Int) : Int := w % 9223372036854775808
def rGen (w : Int) : Int := if 0 ≤ hSlot w then w / 65536 % 4294967296 else 0
theorem un_raw {w : Int} (h0 : 0 ≤ w) (h1 : w < 18446744073709551616) : IntKind.u64.wrap ↑(BitVec.ofInt 64 w &&& ~~~BitVec.ofInt 64 9223372036854775808).toNat = hUn w := by
  have e : (BitVec.ofInt 64 w &&& ~~~BitVec.ofInt 64 9223372036854775808) = (BitVec.ofInt 64 w &&& BitVec.ofInt 64 (2 ^ 63 - 1)) := by
    congr 1
  rw [e]
  have := and_mask 63 (by decide) h0 h1
  rw [this, u64w (by omega) (by omega)]
  rfl
theorem mk_raw {w : Int} (h0 : 0 ≤ w) (h1 : w < 9223372036854775808) : (w.fdiv 9223372036854775808 == 1) = false := by
  rw [Int.fdiv_eq_ediv_of_nonneg w (by decide)]
  have : w / 9223372036854775808 = 0 := by omega
  rw [this]; rfl
theorem gen_raw {w : Int} (h0 : 0 ≤ w) (h1 : w < 9223372036854775808) : IntKind.u32.wrap (IntKind.u64.wrap ↑(BitVec.ofInt 64 (w.fdiv 65536) &&& BitVec.ofInt 64 4294967295).toNat) = w / 65536 % 4294967296 := by
  rw [Int.fdiv_eq_ediv_of_nonneg w (by decide), and_32 (by omega) (by omega), u64w (by omega) (by omega), u32m]
  omega
theorem slot_y {w : Int} (h0 : 0 ≤ w) (h1 : w < 9223372036854775808) (a : w % 65536 - 1 ≥ 0) (b : w % 65536 - 1 < 256) : hSlot w = w % 65536 - 1 := by
  unfold hSlot; rw [if_pos (by omega)]
theorem slot_n {w : Int} (a : ¬ (0 ≤ w % 65536 - 1 ∧ w % 65536 - 1 < 256)) : hSlot w = -1 := by
  unfold hSlot; rw [if_neg (by omega)]

noncomputable def unmH (w : Int) : List (Nat × AO) := [(gnm 0, tabAO tab)]
noncomputable def unmR (w : Int) : LR := ⟨0, .sym .u64 (hUn w), [(gnm 0, tabAO tab)], 0, [], [0 ≤ w, w < 18446744073709551616]⟩
noncomputable def arfH (w : Int) : List (Nat × AO) := [(gnm 0, tabAO tab)]
noncomputable def arfR (w : Int) : LR := ⟨0, .agg [.sym .i64 (hSlot w), .sym .u32 (rGen w), .symb false], [(gnm 0, tabAO tab)], 0, [], [0 ≤ w, w < 9223372036854775808]⟩
end Go.Proofs.YtljeiencnpnbkaaDoor
