/-
  ErasPlay: what begins an operation: definitions.
-/
import Derived.Test.YtephpkfajobhmaaWMemDef
set_option linter.unusedSimpArgs false
set_option linter.unusedVariables false
namespace Go.Proofs.Ytephpkfajobhmaa
open Go.Ev
def inV (w : Int) : Bool := decide (0 ≤ w ∧ w ≤ 15)
def inN (w a : Int) : Int := if 0 ≤ w ∧ w ≤ 15 then a else 0
theorem inN_1 {w a : Int} (h0 : 0 ≤ w) (h1 : w ≤ 15) : inN w a = a := if_pos ⟨h0, h1⟩
theorem inN_0 {w a : Int} (h : w < 0 ∨ 15 < w) : inN w a = 0 := if_neg (by omega)
def nN (k w : Int) : Int := if k = 3 then 1 else inN w 1
def nH (k h : Int) : Int := if k = 2 then h else 0
theorem rE_a {k h : Int} (q : (k == 2) = true) : h = nH k h := by unfold nH; rw [if_pos (by simpa using q)]
theorem rE_b {k h : Int} (q : (k == 2) = false) : 0 = nH k h := by unfold nH; rw [if_neg (by simpa using q)]
theorem rE_c {k w : Int} (q : (k != 3) = false) : 1 = nN k w := by unfold nN; rw [if_pos (by simpa using q)]
theorem rE_d {k w : Int} (q : (k != 3) = true) (r : w < 0 ∨ 15 < w) : 0 = nN k w := by unfold nN; rw [if_neg (by simpa using q), inN_0 r]
theorem rE_e {k w : Int} (q : (k != 3) = true) (r : 0 ≤ w) (r' : w ≤ 15) : 1 = nN k w := by unfold nN; rw [if_neg (by simpa using q), inN_1 r r']

noncomputable def rn0H (w : Int) : List (Nat × AO) := []
noncomputable def rn0R (w : Int) : LR := ⟨0, .ptr 1 0 0, [(1, .cells 3 [.sym .i64 (inN w 3), .sym .i64 w, .sym .u64 0])], 1, [], []⟩
noncomputable def rn1H (w : Int) : List (Nat × AO) := []
noncomputable def rn1R (w : Int) : LR := ⟨0, .ptr 1 0 0, [(1, .cells 2 [.sym .i64 (inN w 2), .sym .i64 w])], 1, [], []⟩
noncomputable def rn2H (w hh : Int) : List (Nat × AO) := []
noncomputable def rn2R (w hh : Int) : LR := ⟨0, .ptr 1 0 0, [(1, .cells 5 [.sym .i64 (inN w 2), .sym .i64 w, .sym .u64 hh, .sym .u64 0, .symb false])], 1, [], []⟩
noncomputable def rn3H  : List (Nat × AO) := []
noncomputable def rn3R  : LR := ⟨0, .ptr 1 0 0, [(1, .cells 3 [.sym .i64 2, .sym .u64 0, .symb false])], 1, [], []⟩
noncomputable def rnrH (k w hh : Int) : List (Nat × AO) := []
noncomputable def rnrR (k w hh : Int) : LR := ⟨0, .ptr 1 0 0, [(1, .cells 6 [.sym .i64 k, .sym .i64 w, .sym .i64 (nN k w), .sym .u64 (nH k hh), .symb false, .sym .u64 0])], 1, [], []⟩
end Go.Proofs.Ytephpkfajobhmaa
