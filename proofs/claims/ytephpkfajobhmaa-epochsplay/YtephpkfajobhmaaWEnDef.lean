/-
  EpochsPlay: what begins an operation: definitions.
-/
import Derived.Test.YtephpkfajobhmaaWMemDef
set_option linter.unusedSimpArgs false
set_option linter.unusedVariables false
namespace Go.Proofs.Ytephpkfajobhmaa
open Go.Ev
def inT (w : Int) : Int := if 0 ≤ w ∧ w ≤ 15 then 1 else 0
theorem inT_1 {w : Int} (h0 : 0 ≤ w) (h1 : w ≤ 15) : inT w = 1 := if_pos ⟨h0, h1⟩
theorem inT_0 {w : Int} (h : w < 0 ∨ 15 < w) : inT w = 0 := if_neg (by omega)
def nL (k w : Int) : Int := if k = 2 then 1 else inT w
def nT (k w : Int) : Int := if k = 2 then 0 else if inT w = 1 then w else 0
theorem nE_a {k w : Int} (h : (k != 2) = false) : 1 = nL k w := by unfold nL; rw [if_pos (by simpa using h)]
theorem nE_b {k w : Int} (h : (k != 2) = false) : 0 = nT k w := by unfold nT; rw [if_pos (by simpa using h)]
theorem nE_c {k w : Int} (h : (k != 2) = true) (q : w < 0 ∨ 15 < w) : 0 = nL k w := by unfold nL; rw [if_neg (by simpa using h), inT_0 q]
theorem nE_d {k w : Int} (h : (k != 2) = true) (q : w < 0 ∨ 15 < w) : 0 = nT k w := by unfold nT; rw [if_neg (by simpa using h), inT_0 q]; rfl
theorem nE_e {k w : Int} (h : (k != 2) = true) (q : 0 ≤ w) (r : w ≤ 15) : 1 = nL k w := by unfold nL; rw [if_neg (by simpa using h), inT_1 q r]
theorem nE_f {k w : Int} (h : (k != 2) = true) (q : 0 ≤ w) (r : w ≤ 15) : w = nT k w := by unfold nT; rw [if_neg (by simpa using h), inT_1 q r]; rfl

noncomputable def nenH (w : Int) : List (Nat × AO) := []
noncomputable def nenR (w : Int) : LR := ⟨0, .ptr 1 0 0, [(1, .cells 3 [.sym .i64 (inT w), .sym .u64 0, .sym .i64 w])], 1, [], []⟩
noncomputable def nexH (w : Int) : List (Nat × AO) := []
noncomputable def nexR (w : Int) : LR := ⟨0, .ptr 1 0 0, [(1, .cells 3 [.sym .i64 (inT w), .sym .u64 0, .sym .i64 w])], 1, [], []⟩
noncomputable def nadH  : List (Nat × AO) := []
noncomputable def nadR  : LR := ⟨0, .ptr 1 0 0, [(1, .cells 5 [.sym .i64 1, .sym .u64 0, .sym .i64 0, .sym .i64 0, .symb false])], 1, [], []⟩
noncomputable def nrfH (k w : Int) : List (Nat × AO) := []
noncomputable def nrfR (k w : Int) : LR := ⟨0, .ptr 1 0 0, [(1, .cells 6 [.sym .i64 k, .sym .i64 (nT k w), .sym .i64 (nL k w), .symb false, .sym .u64 0, .sym .u64 0])], 1, [], []⟩
end Go.Proofs.Ytephpkfajobhmaa
