/-
  MemsPlay: the inner loop: definitions.
-/
import Derived.Test.YtephpkfajobhmaaWSww
import Derived.Test.YtephpkfajobhmaaL02
set_option linter.unusedSimpArgs false
set_option linter.unusedVariables false
namespace Go.Proofs.Ytephpkfajobhmaa
open Go.Ev
def sp77 (A : List (K3 × Int)) (n : Nat) : Nat → Nat → AV := fun i j => if i < n ∧ j = 3 then .sym .u64 77 else wdF (wdAt A) i j
theorem sp77_rows (A : List (K3 × Int)) (n k : Nat) : ∀ i, i < k → rowOb wSh 0 (upd (sp77 A n) (0 + n) 3 [AV.int .u64 77] i) (sp77 A (n + 1) i) := by
  intro i hi
  rw [Nat.zero_add]
  by_cases e : i = n
  · subst e
    refine ⟨?_, ?_, ?_, ?_, trivial⟩ <;> first | rfl | (simp [upd, sp77, nth, avInt]; done) | (simp [upd, sp77]; rfl)
  · have h1 : (i < n + 1) = (i < n) := by apply propext; omega
    refine ⟨?_, ?_, ?_, ?_, trivial⟩ <;> simp [upd, sp77, e, h1] <;> first | rfl | (split <;> rfl)
def aSh : List CK := [.int .u8, .int .u8, .int .i64, .int .i64, .int .u64, .int .u64, .bool]

noncomputable def mplU (A : List (K3 × Int)) (m io : Nat) : St := ⟨[.ss 7 2 0 m none, .top, .top, .ptr 3 0 0, .sym .i64 (Int.ofNat io), .top, .ss 4 1 0 A.length (some A.length), .int .i64 0] ++ List.replicate 97 .top, ⟨[(1, .arr 4 wSh false A.length (wdF (wdAt A)))], 4, gnm 0, [], [], [], false⟩⟩
noncomputable def mplT (A : List (K3 × Int)) (m io : Nat) (i : Nat) : St := ⟨[.ss 7 2 0 m none, .top, .top, .ptr 3 0 0, .sym .i64 (Int.ofNat io), .top, .ss 4 1 0 A.length (some A.length), .sym .i64 (Int.ofNat i)] ++ List.replicate 97 .top, ⟨[(1, .arr 4 wSh false A.length (sp77 A i))], 4, gnm 0, [], [], [1], false⟩⟩
noncomputable def mplX (A : List (K3 × Int)) (m io : Nat) (i : Nat) : St := ⟨[.ss 7 2 0 m none, .top, .top, .ptr 3 0 0, .sym .i64 (Int.ofNat io), .top, .ss 4 1 0 A.length (some A.length)] ++ List.replicate 98 .top, ⟨[(1, .arr 4 wSh false A.length (sp77 A i))], 4, gnm 0, [], [], [1], false⟩⟩
noncomputable abbrev mplL : Code := loopAt Try.prog 5 1
noncomputable def mplLP (A : List (K3 × Int)) (m io : Nat) : Prop := LoopHolds Try.prog mplL (mplU A m io) (.exit 3) (mplX A m io A.length)
end Go.Proofs.Ytephpkfajobhmaa
