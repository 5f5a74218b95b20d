/-
  RetiresOnce: its further loops, definitions.
-/
import Derived.Test.YtnecknppajbcdaaROnce1
set_option linter.unusedSimpArgs false
set_option linter.unusedVariables false
namespace Go.Proofs.Ytnecknppajbcdaa
open Go.Ev
/-- Entries of a list: each may be, and their refs are unlike. -/
def refB (x y : Ent) : Bool := and2 (x.slot == y.slot) (and2 (x.gen == y.gen) (and2 (x.mark == y.mark) true))
structure Uniq (n : Nat) (E : Nat → Ent) : Prop where
  may : ∀ i, i < n → 0 ≤ (E i).slot ∧ (E i).slot < 256 ∧ (E i).mark = false
  diff : ∀ i k, k < i → i < n → refB (E k) (E i) = false
theorem ref_ne {n ii kk : Nat} {E : Nat → Ent} (hu : Uniq n E) (h : (kk : Int) < ii) (hi : ii < n) : (refB (E (0 + kk)) (E (0 + ii)) == true) = false := by
  rw [Nat.zero_add, Nat.zero_add, hu.diff ii kk (by omega) hi]; rfl
theorem o2_slot {n ii : Nat} {E : Nat → Ent} (hu : Uniq n E) (h : ii < n) : decide ((E (0 + ii)).slot < 0) = false := by
  rw [Nat.zero_add]; have := (hu.may ii h).1; simp; omega
theorem o2_slot' {n ii : Nat} {E : Nat → Ent} (hu : Uniq n E) (h : ii < n) : decide ((E (0 + ii)).slot ≥ 256) = false := by
  rw [Nat.zero_add]; have := (hu.may ii h).2.1; simp; omega
theorem o2_mark {n ii : Nat} {E : Nat → Ent} (hu : Uniq n E) (h : ii < n) : (E (0 + ii)).mark = false := by
  rw [Nat.zero_add]; exact (hu.may ii h).2.2
section
variable (m n : Nat) (f : Nat → Nat → AV) (E : Nat → Ent) (M : List Int → Option Int) (a b : Int)
noncomputable def o2H : List (Nat × AO) := [(6, .arr 6 eSh false n (entF E)), (2, .cells 2 [.ss 6 3 0 n none, .map 4]), (3, .arr 6 eSh false n (entF E)), (4, .map 48 M), (1, .arr 6 eSh true m f)]
noncomputable def o2H0 : List (Nat × AO) := [(6, .arr 6 eSh false n (fun i j => entF E (0 + i) j)), (5, .arr 6 eSh false 0 (fun _ _ => .top)), (2, .cells 2 [.ss 6 3 0 n none, .map 4]), (3, .arr 6 eSh false n (entF E)), (4, .map 48 M), (1, .arr 6 eSh true m f)]
noncomputable def o2Hd : List AV := [.top, .sym .u64 a, .sym .u64 b, .top, .top, .top, .bool false, .ptr 2 0 0, .sym .i64 (Int.ofNat n), .top, .ss 6 6 0 n (some n)]
noncomputable def o2U : St := ⟨o2Hd n a b ++ [.int .i64 0] ++ List.replicate 107 .top, ⟨o2H0 m n f E M, 7, gnm 0, [], [], [2], false⟩⟩
noncomputable def o2T (i : Nat) : St := ⟨o2Hd n a b ++ [.sym .i64 (Int.ofNat i)] ++ List.replicate 107 .top, ⟨o2H m n f E M, 7, gnm 0, [], [], [2], false⟩⟩
noncomputable def o2S : St := ⟨o2Hd n a b ++ List.replicate 108 .top, ⟨o2H m n f E M, 7, gnm 0, [], [], [2], false⟩⟩
noncomputable def o3Hd (i : Nat) : List AV := o2Hd n a b ++ [.sym .i64 (Int.ofNat i), .ptr 7 0 0]
noncomputable def o3H (i : Nat) : List (Nat × AO) := (7, .cells 3 [.sym .i64 (E (0 + i)).slot, .sym .u32 (E (0 + i)).gen, .symb (E (0 + i)).mark]) :: o2H m n f E M
noncomputable def o3U (i : Nat) : St := ⟨o3Hd n a b i ++ [.int .i64 0] ++ List.replicate 105 .top, ⟨o3H m n f E M i, 8, gnm 0, [], [], [7, 2], false⟩⟩
noncomputable def o3T (i k : Nat) : St := ⟨o3Hd n a b i ++ [.sym .i64 (Int.ofNat k)] ++ List.replicate 105 .top, ⟨o3H m n f E M i, 8, gnm 0, [], [], [7, 2], false⟩⟩
noncomputable def o3S (i : Nat) : St := ⟨o3Hd n a b i ++ List.replicate 106 .top, ⟨o3H m n f E M i, 8, gnm 0, [], [], [7, 2], false⟩⟩
noncomputable def o4U : St := ⟨o2Hd n a b ++ [.top, .top, .top, .int .i64 0, .int .i64 0] ++ List.replicate 103 .top, ⟨o2H m n f E M, 7, gnm 0, [], [], [2], false⟩⟩
noncomputable def o4P (i : Nat) : Bool := ((E (0 + i)).birth != 18446744073709551615)
noncomputable def o4T (i : Nat) : St := ⟨o2Hd n a b ++ [.top, .top, .top, .sym .i64 (Int.ofNat (cntB (o4P E) i)), .sym .i64 (Int.ofNat i)] ++ List.replicate 103 .top, ⟨o2H m n f E M, 7, gnm 0, [], [], [2], false⟩⟩
noncomputable def o4S : St := ⟨o2Hd n a b ++ [.top, .top, .top, .sym .i64 (Int.ofNat (cntB (o4P E) n))] ++ List.replicate 104 .top, ⟨o2H m n f E M, 7, gnm 0, [], [], [2], false⟩⟩
noncomputable abbrev lcO2 := loopAt Try.prog 3 1
noncomputable abbrev lcO3 := loopAt Try.prog 3 2
noncomputable abbrev lcO4 := loopAt Try.prog 3 3
def k1 : List Nat := [0, 1, 2, 6, 7, 8, 9]
def k2 : List Nat := [1, 2, 6, 7, 8, 10, 11]
def k4 : List Nat := [1, 2, 6, 7, 8, 10, 14, 15]
noncomputable def onA : List AV := [.ss 6 1 0 m none, .sym .u64 a, .sym .u64 b]
noncomputable def onH : List (Nat × AO) := [(1, .arr 6 eSh true m f)]
noncomputable def onL1A : Prop := LoopHolds Try.prog lcO1 (o1U m f a b) (.exit 0) (o1SA m f a b)
noncomputable def onL1B : Prop := LoopHolds Try.prog lcO1 (o1U m f a b) (.exit 0) (o1SB m f a b n E M)
noncomputable def onL2 : Prop := LoopHolds Try.prog lcO2 (o2U m n f E M a b) (.exit 2) (o2S m n f E M a b)
noncomputable def onL4 : Prop := LoopHolds Try.prog lcO4 (o4U m n f E M a b) (.exit 6) (o4S m n f E M a b)
noncomputable def o3Lp (i : Nat) : Prop := LoopHolds Try.prog lcO3 (o3U m n f E M a b i) (.exit 4) (o3S m n f E M a b i)
end
end Go.Proofs.Ytnecknppajbcdaa
