/-
  For every list of acts, HistsOrder returns true; its argument reads as before. No condition.
-/
import Derived.Test.YtnecknppajbcdaaHOrd
import Derived.Test.YtnecknppajbcdaaEvJoin
set_option linter.unusedSimpArgs false
set_option linter.unusedVariables false
namespace Go.Proofs.Ytnecknppajbcdaa
open Go.Ev Go.ChangeShapes Go.WideShapes Go.ChangeAt Go.RowKit
noncomputable def jL (ii : Nat) (S : HS) : Prop := LoopHolds Try.prog lcR2 (iU ii S.n S.C) (.exit 5) (iS ii S.n S.C)
theorem und_iff {S : HS} (h : HIn2 S) {ii : Nat} (hi : ii < S.n) : (undI S.U (S.C (0 + ii)).th == Int.ofNat ii) = ((S.C (0 + ii)).to == -1) := by
  rw [Nat.zero_add, h.inv.und]
  have r := (h.inv.rng ii hi).1
  by_cases e : (S.C ii).to = -1
  · have : srch (uP S.C (S.C ii).th) S.n (fun i => Int.ofNat i) (-1) = Int.ofNat ii := srch_at hi (uP_iff.2 ⟨rfl, by omega⟩) (fun j hj => by
      rw [uP_no]
      rintro ⟨q1, q2⟩
      have := h.ord j ii hj hi q1
      have := (h.inv.rng j (by omega)).1
      omega)
    rw [this, e]; simp
  · have : ¬ srch (uP S.C (S.C ii).th) S.n (fun i => Int.ofNat i) (-1) = Int.ofNat ii := fun q => by
      rcases first_true (uP S.C (S.C ii).th) S.n with h1 | ⟨k, h1, h2, h3⟩
      · rw [srch_no h1] at q; simp at q
      · rw [srch_at h1 h2 h3] at q
        have : k = ii := Int.ofNat.inj q
        subst this
        have := (uP_iff.1 h2).2
        omega
    rw [Bool.eq_iff_iff]
    simp only [beq_iff_eq]
    exact ⟨fun q => (this q).elim, fun q => (e q).elim⟩
theorem ord_at {S : HS} (h : HIn2 S) {ii : Nat} (hi : ii < S.n) : ∀ k, k < ii → (S.C (0 + k)).th = (S.C (0 + ii)).th → (S.C (0 + k)).to ≠ -1 ∧ (S.C (0 + k)).to ≤ (S.C (0 + ii)).fr := fun k hk => by
  rw [Nat.zero_add, Nat.zero_add]; exact h.ord k ii hk hi
theorem prev_at {ii : Nat} (h : 0 < ii) (h2 : ii ≤ 100000) : IntKind.i64.wrap (Int.ofNat ii - 1) = Int.ofNat (ii - 1) := by
  rw [i64w (by simp; omega) (by simp; omega)]; simp; omega
theorem prev_fr {S : HS} (h : HIn2 S) {ii : Nat} (hi : ii < S.n) (h0 : 0 < ii) (h2 : ii ≤ 100000) : decide ((S.C (0 + ii)).fr < (S.C (0 + (IntKind.i64.wrap (Int.ofNat ii - 1)).toNat)).fr) = false := by
  rw [prev_at h0 h2]
  apply decide_eq_false
  have := h.mono (ii - 1) ii (by omega) hi
  simp
  omega
theorem prev_ix {S : HS} {ii : Nat} (hi : ii < S.n) (h0 : 0 < ii) (h2 : ii ≤ 100000) : ((IntKind.i64.wrap (Int.ofNat ii - 1)).toNat.blt S.n && decide (0 ≤ IntKind.i64.wrap (Int.ofNat ii - 1))) = true := by
  rw [prev_at h0 h2]; simp [Nat.blt_eq]; omega
theorem prev_in {S : HS} {ii : Nat} (hi : ii < S.n) (h0 : 0 < ii) (h2 : ii ≤ 100000) : (0 + (IntKind.i64.wrap (Int.ofNat ii - 1)).toNat).blt S.n = true := by
  rw [prev_at h0 h2]; simp [Nat.blt_eq]; omega
theorem jj_1 (ii : Nat) (S : HS) : roundB EH3 2000 lcR1 ((jU S).hp) [] (jT S ii) [Hint.b true, Hint.node [(3, [Hint.b false]), (7, [Hint.b true]), (15, [Hint.b false]), (19, [Hint.b true]), (30, [Hint.b false]), (33, [Hint.b true])], Hint.b false, Hint.b true, Hint.b false, Hint.b true, Hint.b false, Hint.lpl [2, 3, 8, 9, 10, 11] [gnm 8, gnm 10, gnm 3] 2 (Ex.exit 5) (iTm ii S.n ++ List.replicate 191 AV.top) (iH ii S.n S.C) 0 [], Hint.node [], Hint.b false] (jT S (ii + 1)) =
 some (Ex.norm, [(0 : Nat) = 0,
 (0 : Nat) = 0,
 (0 : Nat) = 0,
 S.n = S.n,
 some S.n = some S.n,
 IntKind.i64.wrap (Int.ofNat ii + 1) = Int.ofNat (ii + 1),
 (0 : Nat) = 0,
 S.n = S.n,
 (none : Option Nat) = none,
 S.last = S.last,
 false = false,
 S.n ≤ S.n,
 cF S.C = cF S.C ∧ plainSh cSh = true ∨ ∀ (i : Nat), i < S.n → rowOb cSh 0 (cF S.C i) (cF S.C i),
 ∀ (k : List Int), S.U k = S.U k,
 false = false,
 S.n ≤ S.n,
 cF S.C = cF S.C ∧ plainSh cSh = true ∨ ∀ (i : Nat), i < S.n → rowOb cSh 0 (cF S.C i) (cF S.C i),
 (((undI S.U (S.C (0 + ii)).th == Int.ofNat ii) == ((S.C (0 + ii)).to == -1)) == false) = false,
 jL ii S,
 ((true == ((S.C (0 + ii)).8 != -1)) == false) = false,
 ((S.C (0 + ii)).5 == 1) = true,
 ((((S.C (0 + ii)).5 == 3) == ((S.C (0 + ii)).8 == -1)) == false) = false,
 ((S.C (0 + ii)).9 != -1) = true,
 decide ((S.C (0 + ii)).7 < (S.C (0 + (IntKind.i64.wrap (Int.ofNat ii - 1)).toNat)).7) = false,
 (0 + (IntKind.i64.wrap (Int.ofNat ii - 1)).toNat).blt S.n = true,
 ((IntKind.i64.wrap (Int.ofNat ii - 1)).toNat.blt S.n && decide (0 ≤ IntKind.i64.wrap (Int.ofNat ii - 1))) = true,
 decide (Int.ofNat ii > 0) = true,
 decide ((S.C (0 + ii)).9 < if (S.C (0 + ii)).8 > (S.C (0 + ii)).7 then (S.C (0 + ii)).8 else (S.C (0 + ii)).7) = false,
 ((S.C (0 + ii)).9 != -1) = true,
 decide ((S.C (0 + ii)).8 < (S.C (0 + ii)).7) = false,
 ((S.C (0 + ii)).8 != -1) = true,
 decide ((S.C (0 + ii)).7 < 0) = false,
 (0 + ii).blt S.n = true,
 (ii.blt S.n && decide (0 ≤ Int.ofNat ii)) = true,
 decide (Int.ofNat ii < Int.ofNat S.n) = true]) := by kernel_rfl
theorem jj_2 (ii : Nat) (S : HS) : roundB EH3 2000 lcR1 ((jU S).hp) [] (jT S ii) [Hint.b true, Hint.node [(3, [Hint.b false]), (7, [Hint.b true]), (15, [Hint.b false]), (19, [Hint.b true]), (30, [Hint.b false]), (33, [Hint.b true])], Hint.b false, Hint.b true, Hint.b false, Hint.b false, Hint.b false, Hint.lpl [2, 3, 8, 9, 10, 11] [gnm 8, gnm 10, gnm 3] 2 (Ex.exit 5) (iTm ii S.n ++ List.replicate 191 AV.top) (iH ii S.n S.C) 0 [], Hint.node [], Hint.b false] (jT S (ii + 1)) =
 some (Ex.norm, [(0 : Nat) = 0,
 (0 : Nat) = 0,
 (0 : Nat) = 0,
 S.n = S.n,
 some S.n = some S.n,
 IntKind.i64.wrap (Int.ofNat ii + 1) = Int.ofNat (ii + 1),
 (0 : Nat) = 0,
 S.n = S.n,
 (none : Option Nat) = none,
 S.last = S.last,
 false = false,
 S.n ≤ S.n,
 cF S.C = cF S.C ∧ plainSh cSh = true ∨ ∀ (i : Nat), i < S.n → rowOb cSh 0 (cF S.C i) (cF S.C i),
 ∀ (k : List Int), S.U k = S.U k,
 false = false,
 S.n ≤ S.n,
 cF S.C = cF S.C ∧ plainSh cSh = true ∨ ∀ (i : Nat), i < S.n → rowOb cSh 0 (cF S.C i) (cF S.C i),
 (((undI S.U (S.C (0 + ii)).th == Int.ofNat ii) == ((S.C (0 + ii)).to == -1)) == false) = false,
 jL ii S,
 ((((S.C (0 + ii)).5 == 2) == ((S.C (0 + ii)).8 != -1)) == false) = false,
 ((S.C (0 + ii)).5 == 1) = false,
 ((((S.C (0 + ii)).5 == 3) == ((S.C (0 + ii)).8 == -1)) == false) = false,
 ((S.C (0 + ii)).9 != -1) = true,
 decide ((S.C (0 + ii)).7 < (S.C (0 + (IntKind.i64.wrap (Int.ofNat ii - 1)).toNat)).7) = false,
 (0 + (IntKind.i64.wrap (Int.ofNat ii - 1)).toNat).blt S.n = true,
 ((IntKind.i64.wrap (Int.ofNat ii - 1)).toNat.blt S.n && decide (0 ≤ IntKind.i64.wrap (Int.ofNat ii - 1))) = true,
 decide (Int.ofNat ii > 0) = true,
 decide ((S.C (0 + ii)).9 < if (S.C (0 + ii)).8 > (S.C (0 + ii)).7 then (S.C (0 + ii)).8 else (S.C (0 + ii)).7) = false,
 ((S.C (0 + ii)).9 != -1) = true,
 decide ((S.C (0 + ii)).8 < (S.C (0 + ii)).7) = false,
 ((S.C (0 + ii)).8 != -1) = true,
 decide ((S.C (0 + ii)).7 < 0) = false,
 (0 + ii).blt S.n = true,
 (ii.blt S.n && decide (0 ≤ Int.ofNat ii)) = true,
 decide (Int.ofNat ii < Int.ofNat S.n) = true]) := by kernel_rfl
theorem jj_3 (ii : Nat) (S : HS) : roundB EH3 2000 lcR1 ((jU S).hp) [] (jT S ii) [Hint.b true, Hint.node [(3, [Hint.b false]), (7, [Hint.b true]), (15, [Hint.b false]), (19, [Hint.b true]), (30, [Hint.b false]), (33, [Hint.b false])], Hint.b true, Hint.b false, Hint.b true, Hint.b false, Hint.lpl [2, 3, 8, 9, 10, 11] [gnm 8, gnm 10, gnm 3] 2 (Ex.exit 5) (iTm ii S.n ++ List.replicate 191 AV.top) (iH ii S.n S.C) 0 [], Hint.node [], Hint.b false] (jT S (ii + 1)) =
 some (Ex.norm, [(0 : Nat) = 0,
 (0 : Nat) = 0,
 (0 : Nat) = 0,
 S.n = S.n,
 some S.n = some S.n,
 IntKind.i64.wrap (Int.ofNat ii + 1) = Int.ofNat (ii + 1),
 (0 : Nat) = 0,
 S.n = S.n,
 (none : Option Nat) = none,
 S.last = S.last,
 false = false,
 S.n ≤ S.n,
 cF S.C = cF S.C ∧ plainSh cSh = true ∨ ∀ (i : Nat), i < S.n → rowOb cSh 0 (cF S.C i) (cF S.C i),
 ∀ (k : List Int), S.U k = S.U k,
 false = false,
 S.n ≤ S.n,
 cF S.C = cF S.C ∧ plainSh cSh = true ∨ ∀ (i : Nat), i < S.n → rowOb cSh 0 (cF S.C i) (cF S.C i),
 (((undI S.U (S.C (0 + ii)).th == Int.ofNat ii) == ((S.C (0 + ii)).to == -1)) == false) = false,
 jL ii S,
 ((true == ((S.C (0 + ii)).8 != -1)) == false) = false,
 ((S.C (0 + ii)).5 == 1) = true,
 ((((S.C (0 + ii)).5 == 3) == ((S.C (0 + ii)).8 == -1)) == false) = false,
 ((S.C (0 + ii)).9 != -1) = true,
 decide (Int.ofNat ii > 0) = false,
 decide ((S.C (0 + ii)).9 < if (S.C (0 + ii)).8 > (S.C (0 + ii)).7 then (S.C (0 + ii)).8 else (S.C (0 + ii)).7) = false,
 ((S.C (0 + ii)).9 != -1) = true,
 decide ((S.C (0 + ii)).8 < (S.C (0 + ii)).7) = false,
 ((S.C (0 + ii)).8 != -1) = true,
 decide ((S.C (0 + ii)).7 < 0) = false,
 (0 + ii).blt S.n = true,
 (ii.blt S.n && decide (0 ≤ Int.ofNat ii)) = true,
 decide (Int.ofNat ii < Int.ofNat S.n) = true]) := by kernel_rfl
theorem jj_4 (ii : Nat) (S : HS) : roundB EH3 2000 lcR1 ((jU S).hp) [] (jT S ii) [Hint.b true, Hint.node [(3, [Hint.b false]), (7, [Hint.b true]), (15, [Hint.b false]), (19, [Hint.b true]), (30, [Hint.b false]), (33, [Hint.b false])], Hint.b true, Hint.b false, Hint.b false, Hint.b false, Hint.lpl [2, 3, 8, 9, 10, 11] [gnm 8, gnm 10, gnm 3] 2 (Ex.exit 5) (iTm ii S.n ++ List.replicate 191 AV.top) (iH ii S.n S.C) 0 [], Hint.node [], Hint.b false] (jT S (ii + 1)) =
 some (Ex.norm, [(0 : Nat) = 0,
 (0 : Nat) = 0,
 (0 : Nat) = 0,
 S.n = S.n,
 some S.n = some S.n,
 IntKind.i64.wrap (Int.ofNat ii + 1) = Int.ofNat (ii + 1),
 (0 : Nat) = 0,
 S.n = S.n,
 (none : Option Nat) = none,
 S.last = S.last,
 false = false,
 S.n ≤ S.n,
 cF S.C = cF S.C ∧ plainSh cSh = true ∨ ∀ (i : Nat), i < S.n → rowOb cSh 0 (cF S.C i) (cF S.C i),
 ∀ (k : List Int), S.U k = S.U k,
 false = false,
 S.n ≤ S.n,
 cF S.C = cF S.C ∧ plainSh cSh = true ∨ ∀ (i : Nat), i < S.n → rowOb cSh 0 (cF S.C i) (cF S.C i),
 (((undI S.U (S.C (0 + ii)).th == Int.ofNat ii) == ((S.C (0 + ii)).to == -1)) == false) = false,
 jL ii S,
 ((((S.C (0 + ii)).5 == 2) == ((S.C (0 + ii)).8 != -1)) == false) = false,
 ((S.C (0 + ii)).5 == 1) = false,
 ((((S.C (0 + ii)).5 == 3) == ((S.C (0 + ii)).8 == -1)) == false) = false,
 ((S.C (0 + ii)).9 != -1) = true,
 decide (Int.ofNat ii > 0) = false,
 decide ((S.C (0 + ii)).9 < if (S.C (0 + ii)).8 > (S.C (0 + ii)).7 then (S.C (0 + ii)).8 else (S.C (0 + ii)).7) = false,
 ((S.C (0 + ii)).9 != -1) = true,
 decide ((S.C (0 + ii)).8 < (S.C (0 + ii)).7) = false,
 ((S.C (0 + ii)).8 != -1) = true,
 decide ((S.C (0 + ii)).7 < 0) = false,
 (0 + ii).blt S.n = true,
 (ii.blt S.n && decide (0 ≤ Int.ofNat ii)) = true,
 decide (Int.ofNat ii < Int.ofNat S.n) = true]) := by kernel_rfl
theorem jj_5 (ii : Nat) (S : HS) : roundB EH3 2000 lcR1 ((jU S).hp) [] (jT S ii) [Hint.b true, Hint.node [(3, [Hint.b false]), (7, [Hint.b true]), (15, [Hint.b false]), (19, [Hint.b false]), (33, [Hint.b true])], Hint.b false, Hint.b false, Hint.b false, Hint.b true, Hint.b false, Hint.lpl [2, 3, 8, 9, 10, 11] [gnm 8, gnm 10, gnm 3] 2 (Ex.exit 5) (iTm ii S.n ++ List.replicate 191 AV.top) (iH ii S.n S.C) 0 [], Hint.node [], Hint.b false] (jT S (ii + 1)) =
 some (Ex.norm, [(0 : Nat) = 0,
 (0 : Nat) = 0,
 (0 : Nat) = 0,
 S.n = S.n,
 some S.n = some S.n,
 IntKind.i64.wrap (Int.ofNat ii + 1) = Int.ofNat (ii + 1),
 (0 : Nat) = 0,
 S.n = S.n,
 (none : Option Nat) = none,
 S.last = S.last,
 false = false,
 S.n ≤ S.n,
 cF S.C = cF S.C ∧ plainSh cSh = true ∨ ∀ (i : Nat), i < S.n → rowOb cSh 0 (cF S.C i) (cF S.C i),
 ∀ (k : List Int), S.U k = S.U k,
 false = false,
 S.n ≤ S.n,
 cF S.C = cF S.C ∧ plainSh cSh = true ∨ ∀ (i : Nat), i < S.n → rowOb cSh 0 (cF S.C i) (cF S.C i),
 (((undI S.U (S.C (0 + ii)).th == Int.ofNat ii) == ((S.C (0 + ii)).to == -1)) == false) = false,
 jL ii S,
 ((true == ((S.C (0 + ii)).8 != -1)) == false) = false,
 ((S.C (0 + ii)).5 == 1) = true,
 ((((S.C (0 + ii)).5 == 3) == false) == false) = false,
 ((S.C (0 + ii)).9 != -1) = false,
 decide ((S.C (0 + ii)).7 < (S.C (0 + (IntKind.i64.wrap (Int.ofNat ii - 1)).toNat)).7) = false,
 (0 + (IntKind.i64.wrap (Int.ofNat ii - 1)).toNat).blt S.n = true,
 ((IntKind.i64.wrap (Int.ofNat ii - 1)).toNat.blt S.n && decide (0 ≤ IntKind.i64.wrap (Int.ofNat ii - 1))) = true,
 decide (Int.ofNat ii > 0) = true,
 ((S.C (0 + ii)).9 != -1) = false,
 decide ((S.C (0 + ii)).8 < (S.C (0 + ii)).7) = false,
 ((S.C (0 + ii)).8 != -1) = true,
 decide ((S.C (0 + ii)).7 < 0) = false,
 (0 + ii).blt S.n = true,
 (ii.blt S.n && decide (0 ≤ Int.ofNat ii)) = true,
 decide (Int.ofNat ii < Int.ofNat S.n) = true]) := by kernel_rfl
theorem jj_6 (ii : Nat) (S : HS) : roundB EH3 2000 lcR1 ((jU S).hp) [] (jT S ii) [Hint.b true, Hint.node [(3, [Hint.b false]), (7, [Hint.b true]), (15, [Hint.b false]), (19, [Hint.b false]), (33, [Hint.b true])], Hint.b false, Hint.b false, Hint.b false, Hint.b false, Hint.b false, Hint.lpl [2, 3, 8, 9, 10, 11] [gnm 8, gnm 10, gnm 3] 2 (Ex.exit 5) (iTm ii S.n ++ List.replicate 191 AV.top) (iH ii S.n S.C) 0 [], Hint.node [], Hint.b false] (jT S (ii + 1)) =
 some (Ex.norm, [(0 : Nat) = 0,
 (0 : Nat) = 0,
 (0 : Nat) = 0,
 S.n = S.n,
 some S.n = some S.n,
 IntKind.i64.wrap (Int.ofNat ii + 1) = Int.ofNat (ii + 1),
 (0 : Nat) = 0,
 S.n = S.n,
 (none : Option Nat) = none,
 S.last = S.last,
 false = false,
 S.n ≤ S.n,
 cF S.C = cF S.C ∧ plainSh cSh = true ∨ ∀ (i : Nat), i < S.n → rowOb cSh 0 (cF S.C i) (cF S.C i),
 ∀ (k : List Int), S.U k = S.U k,
 false = false,
 S.n ≤ S.n,
 cF S.C = cF S.C ∧ plainSh cSh = true ∨ ∀ (i : Nat), i < S.n → rowOb cSh 0 (cF S.C i) (cF S.C i),
 (((undI S.U (S.C (0 + ii)).th == Int.ofNat ii) == ((S.C (0 + ii)).to == -1)) == false) = false,
 jL ii S,
 ((((S.C (0 + ii)).5 == 2) == ((S.C (0 + ii)).8 != -1)) == false) = false,
 ((S.C (0 + ii)).5 == 1) = false,
 ((((S.C (0 + ii)).5 == 3) == false) == false) = false,
 ((S.C (0 + ii)).9 != -1) = false,
 decide ((S.C (0 + ii)).7 < (S.C (0 + (IntKind.i64.wrap (Int.ofNat ii - 1)).toNat)).7) = false,
 (0 + (IntKind.i64.wrap (Int.ofNat ii - 1)).toNat).blt S.n = true,
 ((IntKind.i64.wrap (Int.ofNat ii - 1)).toNat.blt S.n && decide (0 ≤ IntKind.i64.wrap (Int.ofNat ii - 1))) = true,
 decide (Int.ofNat ii > 0) = true,
 ((S.C (0 + ii)).9 != -1) = false,
 decide ((S.C (0 + ii)).8 < (S.C (0 + ii)).7) = false,
 ((S.C (0 + ii)).8 != -1) = true,
 decide ((S.C (0 + ii)).7 < 0) = false,
 (0 + ii).blt S.n = true,
 (ii.blt S.n && decide (0 ≤ Int.ofNat ii)) = true,
 decide (Int.ofNat ii < Int.ofNat S.n) = true]) := by kernel_rfl
theorem jj_7 (ii : Nat) (S : HS) : roundB EH3 2000 lcR1 ((jU S).hp) [] (jT S ii) [Hint.b true, Hint.node [(3, [Hint.b false]), (7, [Hint.b true]), (15, [Hint.b false]), (19, [Hint.b false]), (33, [Hint.b false])], Hint.b false, Hint.b false, Hint.b true, Hint.b false, Hint.lpl [2, 3, 8, 9, 10, 11] [gnm 8, gnm 10, gnm 3] 2 (Ex.exit 5) (iTm ii S.n ++ List.replicate 191 AV.top) (iH ii S.n S.C) 0 [], Hint.node [], Hint.b false] (jT S (ii + 1)) =
 some (Ex.norm, [(0 : Nat) = 0,
 (0 : Nat) = 0,
 (0 : Nat) = 0,
 S.n = S.n,
 some S.n = some S.n,
 IntKind.i64.wrap (Int.ofNat ii + 1) = Int.ofNat (ii + 1),
 (0 : Nat) = 0,
 S.n = S.n,
 (none : Option Nat) = none,
 S.last = S.last,
 false = false,
 S.n ≤ S.n,
 cF S.C = cF S.C ∧ plainSh cSh = true ∨ ∀ (i : Nat), i < S.n → rowOb cSh 0 (cF S.C i) (cF S.C i),
 ∀ (k : List Int), S.U k = S.U k,
 false = false,
 S.n ≤ S.n,
 cF S.C = cF S.C ∧ plainSh cSh = true ∨ ∀ (i : Nat), i < S.n → rowOb cSh 0 (cF S.C i) (cF S.C i),
 (((undI S.U (S.C (0 + ii)).th == Int.ofNat ii) == ((S.C (0 + ii)).to == -1)) == false) = false,
 jL ii S,
 ((true == ((S.C (0 + ii)).8 != -1)) == false) = false,
 ((S.C (0 + ii)).5 == 1) = true,
 ((((S.C (0 + ii)).5 == 3) == false) == false) = false,
 ((S.C (0 + ii)).9 != -1) = false,
 decide (Int.ofNat ii > 0) = false,
 ((S.C (0 + ii)).9 != -1) = false,
 decide ((S.C (0 + ii)).8 < (S.C (0 + ii)).7) = false,
 ((S.C (0 + ii)).8 != -1) = true,
 decide ((S.C (0 + ii)).7 < 0) = false,
 (0 + ii).blt S.n = true,
 (ii.blt S.n && decide (0 ≤ Int.ofNat ii)) = true,
 decide (Int.ofNat ii < Int.ofNat S.n) = true]) := by kernel_rfl
theorem jj_8 (ii : Nat) (S : HS) : roundB EH3 2000 lcR1 ((jU S).hp) [] (jT S ii) [Hint.b true, Hint.node [(3, [Hint.b false]), (7, [Hint.b true]), (15, [Hint.b false]), (19, [Hint.b false]), (33, [Hint.b false])], Hint.b false, Hint.b false, Hint.b false, Hint.b false, Hint.lpl [2, 3, 8, 9, 10, 11] [gnm 8, gnm 10, gnm 3] 2 (Ex.exit 5) (iTm ii S.n ++ List.replicate 191 AV.top) (iH ii S.n S.C) 0 [], Hint.node [], Hint.b false] (jT S (ii + 1)) =
 some (Ex.norm, [(0 : Nat) = 0,
 (0 : Nat) = 0,
 (0 : Nat) = 0,
 S.n = S.n,
 some S.n = some S.n,
 IntKind.i64.wrap (Int.ofNat ii + 1) = Int.ofNat (ii + 1),
 (0 : Nat) = 0,
 S.n = S.n,
 (none : Option Nat) = none,
 S.last = S.last,
 false = false,
 S.n ≤ S.n,
 cF S.C = cF S.C ∧ plainSh cSh = true ∨ ∀ (i : Nat), i < S.n → rowOb cSh 0 (cF S.C i) (cF S.C i),
 ∀ (k : List Int), S.U k = S.U k,
 false = false,
 S.n ≤ S.n,
 cF S.C = cF S.C ∧ plainSh cSh = true ∨ ∀ (i : Nat), i < S.n → rowOb cSh 0 (cF S.C i) (cF S.C i),
 (((undI S.U (S.C (0 + ii)).th == Int.ofNat ii) == ((S.C (0 + ii)).to == -1)) == false) = false,
 jL ii S,
 ((((S.C (0 + ii)).5 == 2) == ((S.C (0 + ii)).8 != -1)) == false) = false,
 ((S.C (0 + ii)).5 == 1) = false,
 ((((S.C (0 + ii)).5 == 3) == false) == false) = false,
 ((S.C (0 + ii)).9 != -1) = false,
 decide (Int.ofNat ii > 0) = false,
 ((S.C (0 + ii)).9 != -1) = false,
 decide ((S.C (0 + ii)).8 < (S.C (0 + ii)).7) = false,
 ((S.C (0 + ii)).8 != -1) = true,
 decide ((S.C (0 + ii)).7 < 0) = false,
 (0 + ii).blt S.n = true,
 (ii.blt S.n && decide (0 ≤ Int.ofNat ii)) = true,
 decide (Int.ofNat ii < Int.ofNat S.n) = true]) := by kernel_rfl
theorem jj_9 (ii : Nat) (S : HS) : roundB EH3 2000 lcR1 ((jU S).hp) [] (jT S ii) [Hint.b true, Hint.node [(3, [Hint.b false]), (7, [Hint.b false]), (19, [Hint.b true]), (30, [Hint.b false]), (33, [Hint.b true])], Hint.b false, Hint.b true, Hint.b false, Hint.b true, Hint.b false, Hint.lpl [2, 3, 8, 9, 10, 11] [gnm 8, gnm 10, gnm 3] 2 (Ex.exit 5) (iTm ii S.n ++ List.replicate 191 AV.top) (iH ii S.n S.C) 0 [], Hint.node [], Hint.b false] (jT S (ii + 1)) =
 some (Ex.norm, [(0 : Nat) = 0,
 (0 : Nat) = 0,
 (0 : Nat) = 0,
 S.n = S.n,
 some S.n = some S.n,
 IntKind.i64.wrap (Int.ofNat ii + 1) = Int.ofNat (ii + 1),
 (0 : Nat) = 0,
 S.n = S.n,
 (none : Option Nat) = none,
 S.last = S.last,
 false = false,
 S.n ≤ S.n,
 cF S.C = cF S.C ∧ plainSh cSh = true ∨ ∀ (i : Nat), i < S.n → rowOb cSh 0 (cF S.C i) (cF S.C i),
 ∀ (k : List Int), S.U k = S.U k,
 false = false,
 S.n ≤ S.n,
 cF S.C = cF S.C ∧ plainSh cSh = true ∨ ∀ (i : Nat), i < S.n → rowOb cSh 0 (cF S.C i) (cF S.C i),
 (((undI S.U (S.C (0 + ii)).th == Int.ofNat ii) == ((S.C (0 + ii)).to == -1)) == false) = false,
 jL ii S,
 ((true == ((S.C (0 + ii)).8 != -1)) == false) = false,
 ((S.C (0 + ii)).5 == 1) = true,
 ((((S.C (0 + ii)).5 == 3) == ((S.C (0 + ii)).8 == -1)) == false) = false,
 ((S.C (0 + ii)).9 != -1) = true,
 decide ((S.C (0 + ii)).7 < (S.C (0 + (IntKind.i64.wrap (Int.ofNat ii - 1)).toNat)).7) = false,
 (0 + (IntKind.i64.wrap (Int.ofNat ii - 1)).toNat).blt S.n = true,
 ((IntKind.i64.wrap (Int.ofNat ii - 1)).toNat.blt S.n && decide (0 ≤ IntKind.i64.wrap (Int.ofNat ii - 1))) = true,
 decide (Int.ofNat ii > 0) = true,
 decide ((S.C (0 + ii)).9 < if (S.C (0 + ii)).8 > (S.C (0 + ii)).7 then (S.C (0 + ii)).8 else (S.C (0 + ii)).7) = false,
 ((S.C (0 + ii)).9 != -1) = true,
 ((S.C (0 + ii)).8 != -1) = false,
 decide ((S.C (0 + ii)).7 < 0) = false,
 (0 + ii).blt S.n = true,
 (ii.blt S.n && decide (0 ≤ Int.ofNat ii)) = true,
 decide (Int.ofNat ii < Int.ofNat S.n) = true]) := by kernel_rfl
theorem jj_10 (ii : Nat) (S : HS) : roundB EH3 2000 lcR1 ((jU S).hp) [] (jT S ii) [Hint.b true, Hint.node [(3, [Hint.b false]), (7, [Hint.b false]), (19, [Hint.b true]), (30, [Hint.b false]), (33, [Hint.b true])], Hint.b false, Hint.b true, Hint.b false, Hint.b false, Hint.b false, Hint.lpl [2, 3, 8, 9, 10, 11] [gnm 8, gnm 10, gnm 3] 2 (Ex.exit 5) (iTm ii S.n ++ List.replicate 191 AV.top) (iH ii S.n S.C) 0 [], Hint.node [], Hint.b false] (jT S (ii + 1)) =
 some (Ex.norm, [(0 : Nat) = 0,
 (0 : Nat) = 0,
 (0 : Nat) = 0,
 S.n = S.n,
 some S.n = some S.n,
 IntKind.i64.wrap (Int.ofNat ii + 1) = Int.ofNat (ii + 1),
 (0 : Nat) = 0,
 S.n = S.n,
 (none : Option Nat) = none,
 S.last = S.last,
 false = false,
 S.n ≤ S.n,
 cF S.C = cF S.C ∧ plainSh cSh = true ∨ ∀ (i : Nat), i < S.n → rowOb cSh 0 (cF S.C i) (cF S.C i),
 ∀ (k : List Int), S.U k = S.U k,
 false = false,
 S.n ≤ S.n,
 cF S.C = cF S.C ∧ plainSh cSh = true ∨ ∀ (i : Nat), i < S.n → rowOb cSh 0 (cF S.C i) (cF S.C i),
 (((undI S.U (S.C (0 + ii)).th == Int.ofNat ii) == ((S.C (0 + ii)).to == -1)) == false) = false,
 jL ii S,
 ((((S.C (0 + ii)).5 == 2) == ((S.C (0 + ii)).8 != -1)) == false) = false,
 ((S.C (0 + ii)).5 == 1) = false,
 ((((S.C (0 + ii)).5 == 3) == ((S.C (0 + ii)).8 == -1)) == false) = false,
 ((S.C (0 + ii)).9 != -1) = true,
 decide ((S.C (0 + ii)).7 < (S.C (0 + (IntKind.i64.wrap (Int.ofNat ii - 1)).toNat)).7) = false,
 (0 + (IntKind.i64.wrap (Int.ofNat ii - 1)).toNat).blt S.n = true,
 ((IntKind.i64.wrap (Int.ofNat ii - 1)).toNat.blt S.n && decide (0 ≤ IntKind.i64.wrap (Int.ofNat ii - 1))) = true,
 decide (Int.ofNat ii > 0) = true,
 decide ((S.C (0 + ii)).9 < if (S.C (0 + ii)).8 > (S.C (0 + ii)).7 then (S.C (0 + ii)).8 else (S.C (0 + ii)).7) = false,
 ((S.C (0 + ii)).9 != -1) = true,
 ((S.C (0 + ii)).8 != -1) = false,
 decide ((S.C (0 + ii)).7 < 0) = false,
 (0 + ii).blt S.n = true,
 (ii.blt S.n && decide (0 ≤ Int.ofNat ii)) = true,
 decide (Int.ofNat ii < Int.ofNat S.n) = true]) := by kernel_rfl
theorem jj_11 (ii : Nat) (S : HS) : roundB EH3 2000 lcR1 ((jU S).hp) [] (jT S ii) [Hint.b true, Hint.node [(3, [Hint.b false]), (7, [Hint.b false]), (19, [Hint.b true]), (30, [Hint.b false]), (33, [Hint.b false])], Hint.b true, Hint.b false, Hint.b true, Hint.b false, Hint.lpl [2, 3, 8, 9, 10, 11] [gnm 8, gnm 10, gnm 3] 2 (Ex.exit 5) (iTm ii S.n ++ List.replicate 191 AV.top) (iH ii S.n S.C) 0 [], Hint.node [], Hint.b false] (jT S (ii + 1)) =
 some (Ex.norm, [(0 : Nat) = 0,
 (0 : Nat) = 0,
 (0 : Nat) = 0,
 S.n = S.n,
 some S.n = some S.n,
 IntKind.i64.wrap (Int.ofNat ii + 1) = Int.ofNat (ii + 1),
 (0 : Nat) = 0,
 S.n = S.n,
 (none : Option Nat) = none,
 S.last = S.last,
 false = false,
 S.n ≤ S.n,
 cF S.C = cF S.C ∧ plainSh cSh = true ∨ ∀ (i : Nat), i < S.n → rowOb cSh 0 (cF S.C i) (cF S.C i),
 ∀ (k : List Int), S.U k = S.U k,
 false = false,
 S.n ≤ S.n,
 cF S.C = cF S.C ∧ plainSh cSh = true ∨ ∀ (i : Nat), i < S.n → rowOb cSh 0 (cF S.C i) (cF S.C i),
 (((undI S.U (S.C (0 + ii)).th == Int.ofNat ii) == ((S.C (0 + ii)).to == -1)) == false) = false,
 jL ii S,
 ((true == ((S.C (0 + ii)).8 != -1)) == false) = false,
 ((S.C (0 + ii)).5 == 1) = true,
 ((((S.C (0 + ii)).5 == 3) == ((S.C (0 + ii)).8 == -1)) == false) = false,
 ((S.C (0 + ii)).9 != -1) = true,
 decide (Int.ofNat ii > 0) = false,
 decide ((S.C (0 + ii)).9 < if (S.C (0 + ii)).8 > (S.C (0 + ii)).7 then (S.C (0 + ii)).8 else (S.C (0 + ii)).7) = false,
 ((S.C (0 + ii)).9 != -1) = true,
 ((S.C (0 + ii)).8 != -1) = false,
 decide ((S.C (0 + ii)).7 < 0) = false,
 (0 + ii).blt S.n = true,
 (ii.blt S.n && decide (0 ≤ Int.ofNat ii)) = true,
 decide (Int.ofNat ii < Int.ofNat S.n) = true]) := by kernel_rfl
theorem jj_12 (ii : Nat) (S : HS) : roundB EH3 2000 lcR1 ((jU S).hp) [] (jT S ii) [Hint.b true, Hint.node [(3, [Hint.b false]), (7, [Hint.b false]), (19, [Hint.b true]), (30, [Hint.b false]), (33, [Hint.b false])], Hint.b true, Hint.b false, Hint.b false, Hint.b false, Hint.lpl [2, 3, 8, 9, 10, 11] [gnm 8, gnm 10, gnm 3] 2 (Ex.exit 5) (iTm ii S.n ++ List.replicate 191 AV.top) (iH ii S.n S.C) 0 [], Hint.node [], Hint.b false] (jT S (ii + 1)) =
 some (Ex.norm, [(0 : Nat) = 0,
 (0 : Nat) = 0,
 (0 : Nat) = 0,
 S.n = S.n,
 some S.n = some S.n,
 IntKind.i64.wrap (Int.ofNat ii + 1) = Int.ofNat (ii + 1),
 (0 : Nat) = 0,
 S.n = S.n,
 (none : Option Nat) = none,
 S.last = S.last,
 false = false,
 S.n ≤ S.n,
 cF S.C = cF S.C ∧ plainSh cSh = true ∨ ∀ (i : Nat), i < S.n → rowOb cSh 0 (cF S.C i) (cF S.C i),
 ∀ (k : List Int), S.U k = S.U k,
 false = false,
 S.n ≤ S.n,
 cF S.C = cF S.C ∧ plainSh cSh = true ∨ ∀ (i : Nat), i < S.n → rowOb cSh 0 (cF S.C i) (cF S.C i),
 (((undI S.U (S.C (0 + ii)).th == Int.ofNat ii) == ((S.C (0 + ii)).to == -1)) == false) = false,
 jL ii S,
 ((((S.C (0 + ii)).5 == 2) == ((S.C (0 + ii)).8 != -1)) == false) = false,
 ((S.C (0 + ii)).5 == 1) = false,
 ((((S.C (0 + ii)).5 == 3) == ((S.C (0 + ii)).8 == -1)) == false) = false,
 ((S.C (0 + ii)).9 != -1) = true,
 decide (Int.ofNat ii > 0) = false,
 decide ((S.C (0 + ii)).9 < if (S.C (0 + ii)).8 > (S.C (0 + ii)).7 then (S.C (0 + ii)).8 else (S.C (0 + ii)).7) = false,
 ((S.C (0 + ii)).9 != -1) = true,
 ((S.C (0 + ii)).8 != -1) = false,
 decide ((S.C (0 + ii)).7 < 0) = false,
 (0 + ii).blt S.n = true,
 (ii.blt S.n && decide (0 ≤ Int.ofNat ii)) = true,
 decide (Int.ofNat ii < Int.ofNat S.n) = true]) := by kernel_rfl
theorem jj_13 (ii : Nat) (S : HS) : roundB EH3 2000 lcR1 ((jU S).hp) [] (jT S ii) [Hint.b true, Hint.node [(3, [Hint.b false]), (7, [Hint.b false]), (19, [Hint.b false]), (33, [Hint.b true])], Hint.b false, Hint.b false, Hint.b false, Hint.b true, Hint.b false, Hint.lpl [2, 3, 8, 9, 10, 11] [gnm 8, gnm 10, gnm 3] 2 (Ex.exit 5) (iTm ii S.n ++ List.replicate 191 AV.top) (iH ii S.n S.C) 0 [], Hint.node [], Hint.b false] (jT S (ii + 1)) =
 some (Ex.norm, [(0 : Nat) = 0,
 (0 : Nat) = 0,
 (0 : Nat) = 0,
 S.n = S.n,
 some S.n = some S.n,
 IntKind.i64.wrap (Int.ofNat ii + 1) = Int.ofNat (ii + 1),
 (0 : Nat) = 0,
 S.n = S.n,
 (none : Option Nat) = none,
 S.last = S.last,
 false = false,
 S.n ≤ S.n,
 cF S.C = cF S.C ∧ plainSh cSh = true ∨ ∀ (i : Nat), i < S.n → rowOb cSh 0 (cF S.C i) (cF S.C i),
 ∀ (k : List Int), S.U k = S.U k,
 false = false,
 S.n ≤ S.n,
 cF S.C = cF S.C ∧ plainSh cSh = true ∨ ∀ (i : Nat), i < S.n → rowOb cSh 0 (cF S.C i) (cF S.C i),
 (((undI S.U (S.C (0 + ii)).th == Int.ofNat ii) == ((S.C (0 + ii)).to == -1)) == false) = false,
 jL ii S,
 ((true == ((S.C (0 + ii)).8 != -1)) == false) = false,
 ((S.C (0 + ii)).5 == 1) = true,
 ((((S.C (0 + ii)).5 == 3) == false) == false) = false,
 ((S.C (0 + ii)).9 != -1) = false,
 decide ((S.C (0 + ii)).7 < (S.C (0 + (IntKind.i64.wrap (Int.ofNat ii - 1)).toNat)).7) = false,
 (0 + (IntKind.i64.wrap (Int.ofNat ii - 1)).toNat).blt S.n = true,
 ((IntKind.i64.wrap (Int.ofNat ii - 1)).toNat.blt S.n && decide (0 ≤ IntKind.i64.wrap (Int.ofNat ii - 1))) = true,
 decide (Int.ofNat ii > 0) = true,
 ((S.C (0 + ii)).9 != -1) = false,
 ((S.C (0 + ii)).8 != -1) = false,
 decide ((S.C (0 + ii)).7 < 0) = false,
 (0 + ii).blt S.n = true,
 (ii.blt S.n && decide (0 ≤ Int.ofNat ii)) = true,
 decide (Int.ofNat ii < Int.ofNat S.n) = true]) := by kernel_rfl
theorem jj_14 (ii : Nat) (S : HS) : roundB EH3 2000 lcR1 ((jU S).hp) [] (jT S ii) [Hint.b true, Hint.node [(3, [Hint.b false]), (7, [Hint.b false]), (19, [Hint.b false]), (33, [Hint.b true])], Hint.b false, Hint.b false, Hint.b false, Hint.b false, Hint.b false, Hint.lpl [2, 3, 8, 9, 10, 11] [gnm 8, gnm 10, gnm 3] 2 (Ex.exit 5) (iTm ii S.n ++ List.replicate 191 AV.top) (iH ii S.n S.C) 0 [], Hint.node [], Hint.b false] (jT S (ii + 1)) =
 some (Ex.norm, [(0 : Nat) = 0,
 (0 : Nat) = 0,
 (0 : Nat) = 0,
 S.n = S.n,
 some S.n = some S.n,
 IntKind.i64.wrap (Int.ofNat ii + 1) = Int.ofNat (ii + 1),
 (0 : Nat) = 0,
 S.n = S.n,
 (none : Option Nat) = none,
 S.last = S.last,
 false = false,
 S.n ≤ S.n,
 cF S.C = cF S.C ∧ plainSh cSh = true ∨ ∀ (i : Nat), i < S.n → rowOb cSh 0 (cF S.C i) (cF S.C i),
 ∀ (k : List Int), S.U k = S.U k,
 false = false,
 S.n ≤ S.n,
 cF S.C = cF S.C ∧ plainSh cSh = true ∨ ∀ (i : Nat), i < S.n → rowOb cSh 0 (cF S.C i) (cF S.C i),
 (((undI S.U (S.C (0 + ii)).th == Int.ofNat ii) == ((S.C (0 + ii)).to == -1)) == false) = false,
 jL ii S,
 ((((S.C (0 + ii)).5 == 2) == ((S.C (0 + ii)).8 != -1)) == false) = false,
 ((S.C (0 + ii)).5 == 1) = false,
 ((((S.C (0 + ii)).5 == 3) == false) == false) = false,
 ((S.C (0 + ii)).9 != -1) = false,
 decide ((S.C (0 + ii)).7 < (S.C (0 + (IntKind.i64.wrap (Int.ofNat ii - 1)).toNat)).7) = false,
 (0 + (IntKind.i64.wrap (Int.ofNat ii - 1)).toNat).blt S.n = true,
 ((IntKind.i64.wrap (Int.ofNat ii - 1)).toNat.blt S.n && decide (0 ≤ IntKind.i64.wrap (Int.ofNat ii - 1))) = true,
 decide (Int.ofNat ii > 0) = true,
 ((S.C (0 + ii)).9 != -1) = false,
 ((S.C (0 + ii)).8 != -1) = false,
 decide ((S.C (0 + ii)).7 < 0) = false,
 (0 + ii).blt S.n = true,
 (ii.blt S.n && decide (0 ≤ Int.ofNat ii)) = true,
 decide (Int.ofNat ii < Int.ofNat S.n) = true]) := by kernel_rfl
theorem jj_15 (ii : Nat) (S : HS) : roundB EH3 2000 lcR1 ((jU S).hp) [] (jT S ii) [Hint.b true, Hint.node [(3, [Hint.b false]), (7, [Hint.b false]), (19, [Hint.b false]), (33, [Hint.b false])], Hint.b false, Hint.b false, Hint.b true, Hint.b false, Hint.lpl [2, 3, 8, 9, 10, 11] [gnm 8, gnm 10, gnm 3] 2 (Ex.exit 5) (iTm ii S.n ++ List.replicate 191 AV.top) (iH ii S.n S.C) 0 [], Hint.node [], Hint.b false] (jT S (ii + 1)) =
 some (Ex.norm, [(0 : Nat) = 0,
 (0 : Nat) = 0,
 (0 : Nat) = 0,
 S.n = S.n,
 some S.n = some S.n,
 IntKind.i64.wrap (Int.ofNat ii + 1) = Int.ofNat (ii + 1),
 (0 : Nat) = 0,
 S.n = S.n,
 (none : Option Nat) = none,
 S.last = S.last,
 false = false,
 S.n ≤ S.n,
 cF S.C = cF S.C ∧ plainSh cSh = true ∨ ∀ (i : Nat), i < S.n → rowOb cSh 0 (cF S.C i) (cF S.C i),
 ∀ (k : List Int), S.U k = S.U k,
 false = false,
 S.n ≤ S.n,
 cF S.C = cF S.C ∧ plainSh cSh = true ∨ ∀ (i : Nat), i < S.n → rowOb cSh 0 (cF S.C i) (cF S.C i),
 (((undI S.U (S.C (0 + ii)).th == Int.ofNat ii) == ((S.C (0 + ii)).to == -1)) == false) = false,
 jL ii S,
 ((true == ((S.C (0 + ii)).8 != -1)) == false) = false,
 ((S.C (0 + ii)).5 == 1) = true,
 ((((S.C (0 + ii)).5 == 3) == false) == false) = false,
 ((S.C (0 + ii)).9 != -1) = false,
 decide (Int.ofNat ii > 0) = false,
 ((S.C (0 + ii)).9 != -1) = false,
 ((S.C (0 + ii)).8 != -1) = false,
 decide ((S.C (0 + ii)).7 < 0) = false,
 (0 + ii).blt S.n = true,
 (ii.blt S.n && decide (0 ≤ Int.ofNat ii)) = true,
 decide (Int.ofNat ii < Int.ofNat S.n) = true]) := by kernel_rfl
theorem jj_16 (ii : Nat) (S : HS) : roundB EH3 2000 lcR1 ((jU S).hp) [] (jT S ii) [Hint.b true, Hint.node [(3, [Hint.b false]), (7, [Hint.b false]), (19, [Hint.b false]), (33, [Hint.b false])], Hint.b false, Hint.b false, Hint.b false, Hint.b false, Hint.lpl [2, 3, 8, 9, 10, 11] [gnm 8, gnm 10, gnm 3] 2 (Ex.exit 5) (iTm ii S.n ++ List.replicate 191 AV.top) (iH ii S.n S.C) 0 [], Hint.node [], Hint.b false] (jT S (ii + 1)) =
 some (Ex.norm, [(0 : Nat) = 0,
 (0 : Nat) = 0,
 (0 : Nat) = 0,
 S.n = S.n,
 some S.n = some S.n,
 IntKind.i64.wrap (Int.ofNat ii + 1) = Int.ofNat (ii + 1),
 (0 : Nat) = 0,
 S.n = S.n,
 (none : Option Nat) = none,
 S.last = S.last,
 false = false,
 S.n ≤ S.n,
 cF S.C = cF S.C ∧ plainSh cSh = true ∨ ∀ (i : Nat), i < S.n → rowOb cSh 0 (cF S.C i) (cF S.C i),
 ∀ (k : List Int), S.U k = S.U k,
 false = false,
 S.n ≤ S.n,
 cF S.C = cF S.C ∧ plainSh cSh = true ∨ ∀ (i : Nat), i < S.n → rowOb cSh 0 (cF S.C i) (cF S.C i),
 (((undI S.U (S.C (0 + ii)).th == Int.ofNat ii) == ((S.C (0 + ii)).to == -1)) == false) = false,
 jL ii S,
 ((((S.C (0 + ii)).5 == 2) == ((S.C (0 + ii)).8 != -1)) == false) = false,
 ((S.C (0 + ii)).5 == 1) = false,
 ((((S.C (0 + ii)).5 == 3) == false) == false) = false,
 ((S.C (0 + ii)).9 != -1) = false,
 decide (Int.ofNat ii > 0) = false,
 ((S.C (0 + ii)).9 != -1) = false,
 ((S.C (0 + ii)).8 != -1) = false,
 decide ((S.C (0 + ii)).7 < 0) = false,
 (0 + ii).blt S.n = true,
 (ii.blt S.n && decide (0 ≤ Int.ofNat ii)) = true,
 decide (Int.ofNat ii < Int.ofNat S.n) = true]) := by kernel_rfl
theorem jj_17 (ii : Nat) (S : HS) : roundB EH3 2000 lcR1 ((jU S).hp) [] (jT S ii) [Hint.b false] jS =
 some (Ex.exit 3, [decide (Int.ofNat ii < Int.ofNat S.n) = false]) := by kernel_rfl
theorem jji_1 (S : HS) : castSt ((jU S).hp) [] (jU S) (jT S 0) =
 some ([(0 : Nat) = 0,
 (0 : Nat) = 0,
 (0 : Nat) = 0,
 S.n = S.n,
 some S.n = some S.n,
 (0 : Int) = 0,
 (0 : Nat) = 0,
 S.n = S.n,
 (none : Option Nat) = none,
 S.last = S.last,
 false = false,
 S.n ≤ S.n,
 cF S.C = cF S.C ∧ plainSh cSh = true ∨ ∀ (i : Nat), i < S.n → rowOb cSh 0 (cF S.C i) (cF S.C i),
 ∀ (k : List Int), S.U k = S.U k,
 false = false,
 S.n ≤ S.n,
 cF S.C = cF S.C ∧ plainSh cSh = true ∨ ∀ (i : Nat), i < S.n → rowOb cSh 0 (cF S.C i) (cF S.C i)]) := by kernel_rfl
set_option maxHeartbeats 4000000 in
theorem jj_lp (S : HS) (h : HIn2 S) (hn : S.n ≤ 1000) : LoopHolds Try.prog lcR1 (jU S) (.exit 3) jS := by
  refine loop_rule EH3_ok (I := Nat) (jT S) (fun i => S.n - i) (fun i => i ≤ S.n) ?_ (fun ii hi => ?_)
  ·
    refine ⟨0, [], _, Nat.zero_le _, jji_1 .., (ob_cons rfl (ob_cons rfl (ob_cons rfl (ob_cons rfl (ob_cons rfl (ob_cons rfl (ob_cons rfl (ob_cons rfl (ob_cons rfl (ob_cons rfl (ob_cons rfl (ob_cons (Nat.le_refl _) (ob_cons (.inl ⟨rfl, rfl⟩) (ob_cons (fun _ => rfl) (ob_cons rfl (ob_cons (Nat.le_refl _) (ob_cons (.inl ⟨rfl, rfl⟩) ob_nil)))))))))))))))))⟩
  cases h1 : (decide (Int.ofNat ii < Int.ofNat S.n)) with
  | true =>
    have g1 := of_decide_eq_true h1
    try simp only [Int.ofNat_eq_natCast, ge_iff_le, gt_iff_lt, Int.not_lt, Int.not_le] at g1
    cases h2 : ((S.C (0 + ii)).8 != -1) with
    | true =>
      cases h3 : ((S.C (0 + ii)).9 != -1) with
      | true =>
        cases h4 : (decide (Int.ofNat ii > 0)) with
        | true =>
          have g4 := of_decide_eq_true h4
          try simp only [Int.ofNat_eq_natCast, ge_iff_le, gt_iff_lt, Int.not_lt, Int.not_le] at g4
          cases h5 : ((S.C (0 + ii)).5 == 1) with
          | true =>
            have hc : ClOk S.last (S.C (0 + ii)) := (by rw [Nat.zero_add]; exact h.ok ii (by omega))
            obtain ⟨⟨c1, c2, c3, c4⟩, c5, c6, c7, c8⟩ := hc
            have hu := und_iff h (by omega : ii < S.n)
            have hlp := inn_lp S.n ii S.C (by omega) (by omega) (ord_at h (by omega))
            refine round_norm (s0 := jU S) (ii + 1) (jj_1 ..) (ob_cons rfl (ob_cons rfl (ob_cons rfl (ob_cons rfl (ob_cons rfl (ob_cons ?_ (ob_cons rfl (ob_cons rfl (ob_cons rfl (ob_cons rfl (ob_cons rfl (ob_cons (Nat.le_refl _) (ob_cons (.inl ⟨rfl, rfl⟩) (ob_cons (fun _ => rfl) (ob_cons rfl (ob_cons (Nat.le_refl _) (ob_cons (.inl ⟨rfl, rfl⟩) (ob_cons ?_ (ob_cons ?_ (ob_cons ?_ (ob_cons h5 (ob_cons ?_ (ob_cons h3 (ob_cons ?_ (ob_cons ?_ (ob_cons ?_ (ob_cons h4 (ob_cons ?_ (ob_cons h3 (ob_cons ?_ (ob_cons h2 (ob_cons ?_ (ob_cons ?_ (ob_cons ?_ (ob_cons h1 ob_nil))))))))))))))))))))))))))))))))))) (by show ii + 1 ≤ S.n; omega) (by show S.n - (ii + 1) < S.n - ii; omega)
            ·
              first | exact wrap_nat64 _ (by simp; omega) (by simp; omega) | exact hlp | (first | exact prev_fr h (by omega) (by omega) (by omega) | exact prev_ix (by omega) (by omega) (by omega) | exact prev_in (by omega) (by omega) (by omega)) | (rw [hu]; simp; done) | (simp only [bne_iff_ne, bne_eq_false_iff_eq, beq_iff_eq, beq_eq_false_iff_ne, decide_eq_true_eq, decide_eq_false_iff_not, Bool.not_eq_true', Bool.not_eq_false', ne_eq, gt_iff_lt, ge_iff_le, Int.not_lt, Int.not_le, Decidable.not_not] at *; omega) | (simp only [bne_iff_ne, bne_eq_false_iff_eq, beq_iff_eq, beq_eq_false_iff_ne, decide_eq_true_eq, decide_eq_false_iff_not, Bool.not_eq_true', Bool.not_eq_false', ne_eq, gt_iff_lt, ge_iff_le, Int.not_lt, Int.not_le, Decidable.not_not] at *; simp_all; done) | (simp_all; omega) | (simp; omega)
            ·
              first | (apply Nat.ble_eq_true_of_le; omega) | (simp [Nat.blt_eq]; omega) | exact hlp | (first | exact prev_fr h (by omega) (by omega) (by omega) | exact prev_ix (by omega) (by omega) (by omega) | exact prev_in (by omega) (by omega) (by omega)) | (rw [hu]; simp; done) | (simp only [bne_iff_ne, bne_eq_false_iff_eq, beq_iff_eq, beq_eq_false_iff_ne, decide_eq_true_eq, decide_eq_false_iff_not, Bool.not_eq_true', Bool.not_eq_false', ne_eq, gt_iff_lt, ge_iff_le, Int.not_lt, Int.not_le, Decidable.not_not] at *; omega) | (simp only [bne_iff_ne, bne_eq_false_iff_eq, beq_iff_eq, beq_eq_false_iff_ne, decide_eq_true_eq, decide_eq_false_iff_not, Bool.not_eq_true', Bool.not_eq_false', ne_eq, gt_iff_lt, ge_iff_le, Int.not_lt, Int.not_le, Decidable.not_not] at *; simp_all; done) | (simp_all; omega) | (simp; omega)
            ·
              first | trivial | exact hlp | (first | exact prev_fr h (by omega) (by omega) (by omega) | exact prev_ix (by omega) (by omega) (by omega) | exact prev_in (by omega) (by omega) (by omega)) | (rw [hu]; simp; done) | (simp only [bne_iff_ne, bne_eq_false_iff_eq, beq_iff_eq, beq_eq_false_iff_ne, decide_eq_true_eq, decide_eq_false_iff_not, Bool.not_eq_true', Bool.not_eq_false', ne_eq, gt_iff_lt, ge_iff_le, Int.not_lt, Int.not_le, Decidable.not_not] at *; omega) | (simp only [bne_iff_ne, bne_eq_false_iff_eq, beq_iff_eq, beq_eq_false_iff_ne, decide_eq_true_eq, decide_eq_false_iff_not, Bool.not_eq_true', Bool.not_eq_false', ne_eq, gt_iff_lt, ge_iff_le, Int.not_lt, Int.not_le, Decidable.not_not] at *; simp_all; done) | (simp_all; omega) | (simp; omega)
            ·
              first | (apply Nat.ble_eq_true_of_le; omega) | (simp [Nat.blt_eq]; omega) | exact hlp | (first | exact prev_fr h (by omega) (by omega) (by omega) | exact prev_ix (by omega) (by omega) (by omega) | exact prev_in (by omega) (by omega) (by omega)) | (rw [hu]; simp; done) | (simp only [bne_iff_ne, bne_eq_false_iff_eq, beq_iff_eq, beq_eq_false_iff_ne, decide_eq_true_eq, decide_eq_false_iff_not, Bool.not_eq_true', Bool.not_eq_false', ne_eq, gt_iff_lt, ge_iff_le, Int.not_lt, Int.not_le, Decidable.not_not] at *; omega) | (simp only [bne_iff_ne, bne_eq_false_iff_eq, beq_iff_eq, beq_eq_false_iff_ne, decide_eq_true_eq, decide_eq_false_iff_not, Bool.not_eq_true', Bool.not_eq_false', ne_eq, gt_iff_lt, ge_iff_le, Int.not_lt, Int.not_le, Decidable.not_not] at *; simp_all; done) | (simp_all; omega) | (simp; omega)
            ·
              first | (apply Nat.ble_eq_true_of_le; omega) | (simp [Nat.blt_eq]; omega) | exact hlp | (first | exact prev_fr h (by omega) (by omega) (by omega) | exact prev_ix (by omega) (by omega) (by omega) | exact prev_in (by omega) (by omega) (by omega)) | (rw [hu]; simp; done) | (simp only [bne_iff_ne, bne_eq_false_iff_eq, beq_iff_eq, beq_eq_false_iff_ne, decide_eq_true_eq, decide_eq_false_iff_not, Bool.not_eq_true', Bool.not_eq_false', ne_eq, gt_iff_lt, ge_iff_le, Int.not_lt, Int.not_le, Decidable.not_not] at *; omega) | (simp only [bne_iff_ne, bne_eq_false_iff_eq, beq_iff_eq, beq_eq_false_iff_ne, decide_eq_true_eq, decide_eq_false_iff_not, Bool.not_eq_true', Bool.not_eq_false', ne_eq, gt_iff_lt, ge_iff_le, Int.not_lt, Int.not_le, Decidable.not_not] at *; simp_all; done) | (simp_all; omega) | (simp; omega)
            ·
              first | (apply Nat.ble_eq_true_of_le; omega) | (simp [Nat.blt_eq]; omega) | exact hlp | (first | exact prev_fr h (by omega) (by omega) (by omega) | exact prev_ix (by omega) (by omega) (by omega) | exact prev_in (by omega) (by omega) (by omega)) | (rw [hu]; simp; done) | (simp only [bne_iff_ne, bne_eq_false_iff_eq, beq_iff_eq, beq_eq_false_iff_ne, decide_eq_true_eq, decide_eq_false_iff_not, Bool.not_eq_true', Bool.not_eq_false', ne_eq, gt_iff_lt, ge_iff_le, Int.not_lt, Int.not_le, Decidable.not_not] at *; omega) | (simp only [bne_iff_ne, bne_eq_false_iff_eq, beq_iff_eq, beq_eq_false_iff_ne, decide_eq_true_eq, decide_eq_false_iff_not, Bool.not_eq_true', Bool.not_eq_false', ne_eq, gt_iff_lt, ge_iff_le, Int.not_lt, Int.not_le, Decidable.not_not] at *; simp_all; done) | (simp_all; omega) | (simp; omega)
            ·
              first | (apply Nat.ble_eq_true_of_le; omega) | (simp [Nat.blt_eq]; omega) | exact hlp | (first | exact prev_fr h (by omega) (by omega) (by omega) | exact prev_ix (by omega) (by omega) (by omega) | exact prev_in (by omega) (by omega) (by omega)) | (rw [hu]; simp; done) | (simp only [bne_iff_ne, bne_eq_false_iff_eq, beq_iff_eq, beq_eq_false_iff_ne, decide_eq_true_eq, decide_eq_false_iff_not, Bool.not_eq_true', Bool.not_eq_false', ne_eq, gt_iff_lt, ge_iff_le, Int.not_lt, Int.not_le, Decidable.not_not] at *; omega) | (simp only [bne_iff_ne, bne_eq_false_iff_eq, beq_iff_eq, beq_eq_false_iff_ne, decide_eq_true_eq, decide_eq_false_iff_not, Bool.not_eq_true', Bool.not_eq_false', ne_eq, gt_iff_lt, ge_iff_le, Int.not_lt, Int.not_le, Decidable.not_not] at *; simp_all; done) | (simp_all; omega) | (simp; omega)
            ·
              first | (apply Nat.ble_eq_true_of_le; omega) | (simp [Nat.blt_eq]; omega) | exact hlp | (first | exact prev_fr h (by omega) (by omega) (by omega) | exact prev_ix (by omega) (by omega) (by omega) | exact prev_in (by omega) (by omega) (by omega)) | (rw [hu]; simp; done) | (simp only [bne_iff_ne, bne_eq_false_iff_eq, beq_iff_eq, beq_eq_false_iff_ne, decide_eq_true_eq, decide_eq_false_iff_not, Bool.not_eq_true', Bool.not_eq_false', ne_eq, gt_iff_lt, ge_iff_le, Int.not_lt, Int.not_le, Decidable.not_not] at *; omega) | (simp only [bne_iff_ne, bne_eq_false_iff_eq, beq_iff_eq, beq_eq_false_iff_ne, decide_eq_true_eq, decide_eq_false_iff_not, Bool.not_eq_true', Bool.not_eq_false', ne_eq, gt_iff_lt, ge_iff_le, Int.not_lt, Int.not_le, Decidable.not_not] at *; simp_all; done) | (simp_all; omega) | (simp; omega)
            ·
              first | (apply Nat.ble_eq_true_of_le; omega) | (simp [Nat.blt_eq]; omega) | exact hlp | (first | exact prev_fr h (by omega) (by omega) (by omega) | exact prev_ix (by omega) (by omega) (by omega) | exact prev_in (by omega) (by omega) (by omega)) | (rw [hu]; simp; done) | (simp only [bne_iff_ne, bne_eq_false_iff_eq, beq_iff_eq, beq_eq_false_iff_ne, decide_eq_true_eq, decide_eq_false_iff_not, Bool.not_eq_true', Bool.not_eq_false', ne_eq, gt_iff_lt, ge_iff_le, Int.not_lt, Int.not_le, Decidable.not_not] at *; omega) | (simp only [bne_iff_ne, bne_eq_false_iff_eq, beq_iff_eq, beq_eq_false_iff_ne, decide_eq_true_eq, decide_eq_false_iff_not, Bool.not_eq_true', Bool.not_eq_false', ne_eq, gt_iff_lt, ge_iff_le, Int.not_lt, Int.not_le, Decidable.not_not] at *; simp_all; done) | (simp_all; omega) | (simp; omega)
            ·
              first | (apply Nat.ble_eq_true_of_le; omega) | (simp [Nat.blt_eq]; omega) | exact hlp | (first | exact prev_fr h (by omega) (by omega) (by omega) | exact prev_ix (by omega) (by omega) (by omega) | exact prev_in (by omega) (by omega) (by omega)) | (rw [hu]; simp; done) | (simp only [bne_iff_ne, bne_eq_false_iff_eq, beq_iff_eq, beq_eq_false_iff_ne, decide_eq_true_eq, decide_eq_false_iff_not, Bool.not_eq_true', Bool.not_eq_false', ne_eq, gt_iff_lt, ge_iff_le, Int.not_lt, Int.not_le, Decidable.not_not] at *; omega) | (simp only [bne_iff_ne, bne_eq_false_iff_eq, beq_iff_eq, beq_eq_false_iff_ne, decide_eq_true_eq, decide_eq_false_iff_not, Bool.not_eq_true', Bool.not_eq_false', ne_eq, gt_iff_lt, ge_iff_le, Int.not_lt, Int.not_le, Decidable.not_not] at *; simp_all; done) | (simp_all; omega) | (simp; omega)
            ·
              first | (apply Nat.ble_eq_true_of_le; omega) | (simp [Nat.blt_eq]; omega) | exact hlp | (first | exact prev_fr h (by omega) (by omega) (by omega) | exact prev_ix (by omega) (by omega) (by omega) | exact prev_in (by omega) (by omega) (by omega)) | (rw [hu]; simp; done) | (simp only [bne_iff_ne, bne_eq_false_iff_eq, beq_iff_eq, beq_eq_false_iff_ne, decide_eq_true_eq, decide_eq_false_iff_not, Bool.not_eq_true', Bool.not_eq_false', ne_eq, gt_iff_lt, ge_iff_le, Int.not_lt, Int.not_le, Decidable.not_not] at *; omega) | (simp only [bne_iff_ne, bne_eq_false_iff_eq, beq_iff_eq, beq_eq_false_iff_ne, decide_eq_true_eq, decide_eq_false_iff_not, Bool.not_eq_true', Bool.not_eq_false', ne_eq, gt_iff_lt, ge_iff_le, Int.not_lt, Int.not_le, Decidable.not_not] at *; simp_all; done) | (simp_all; omega) | (simp; omega)
            ·
              first | (apply Nat.ble_eq_true_of_le; omega) | (simp [Nat.blt_eq]; omega) | exact hlp | (first | exact prev_fr h (by omega) (by omega) (by omega) | exact prev_ix (by omega) (by omega) (by omega) | exact prev_in (by omega) (by omega) (by omega)) | (rw [hu]; simp; done) | (simp only [bne_iff_ne, bne_eq_false_iff_eq, beq_iff_eq, beq_eq_false_iff_ne, decide_eq_true_eq, decide_eq_false_iff_not, Bool.not_eq_true', Bool.not_eq_false', ne_eq, gt_iff_lt, ge_iff_le, Int.not_lt, Int.not_le, Decidable.not_not] at *; omega) | (simp only [bne_iff_ne, bne_eq_false_iff_eq, beq_iff_eq, beq_eq_false_iff_ne, decide_eq_true_eq, decide_eq_false_iff_not, Bool.not_eq_true', Bool.not_eq_false', ne_eq, gt_iff_lt, ge_iff_le, Int.not_lt, Int.not_le, Decidable.not_not] at *; simp_all; done) | (simp_all; omega) | (simp; omega)
            ·
              first | (apply Nat.ble_eq_true_of_le; omega) | (simp [Nat.blt_eq]; omega) | exact hlp | (first | exact prev_fr h (by omega) (by omega) (by omega) | exact prev_ix (by omega) (by omega) (by omega) | exact prev_in (by omega) (by omega) (by omega)) | (rw [hu]; simp; done) | (simp only [bne_iff_ne, bne_eq_false_iff_eq, beq_iff_eq, beq_eq_false_iff_ne, decide_eq_true_eq, decide_eq_false_iff_not, Bool.not_eq_true', Bool.not_eq_false', ne_eq, gt_iff_lt, ge_iff_le, Int.not_lt, Int.not_le, Decidable.not_not] at *; omega) | (simp only [bne_iff_ne, bne_eq_false_iff_eq, beq_iff_eq, beq_eq_false_iff_ne, decide_eq_true_eq, decide_eq_false_iff_not, Bool.not_eq_true', Bool.not_eq_false', ne_eq, gt_iff_lt, ge_iff_le, Int.not_lt, Int.not_le, Decidable.not_not] at *; simp_all; done) | (simp_all; omega) | (simp; omega)
          | false =>
            have hc : ClOk S.last (S.C (0 + ii)) := (by rw [Nat.zero_add]; exact h.ok ii (by omega))
            obtain ⟨⟨c1, c2, c3, c4⟩, c5, c6, c7, c8⟩ := hc
            have hu := und_iff h (by omega : ii < S.n)
            have hlp := inn_lp S.n ii S.C (by omega) (by omega) (ord_at h (by omega))
            refine round_norm (s0 := jU S) (ii + 1) (jj_2 ..) (ob_cons rfl (ob_cons rfl (ob_cons rfl (ob_cons rfl (ob_cons rfl (ob_cons ?_ (ob_cons rfl (ob_cons rfl (ob_cons rfl (ob_cons rfl (ob_cons rfl (ob_cons (Nat.le_refl _) (ob_cons (.inl ⟨rfl, rfl⟩) (ob_cons (fun _ => rfl) (ob_cons rfl (ob_cons (Nat.le_refl _) (ob_cons (.inl ⟨rfl, rfl⟩) (ob_cons ?_ (ob_cons ?_ (ob_cons ?_ (ob_cons h5 (ob_cons ?_ (ob_cons h3 (ob_cons ?_ (ob_cons ?_ (ob_cons ?_ (ob_cons h4 (ob_cons ?_ (ob_cons h3 (ob_cons ?_ (ob_cons h2 (ob_cons ?_ (ob_cons ?_ (ob_cons ?_ (ob_cons h1 ob_nil))))))))))))))))))))))))))))))))))) (by show ii + 1 ≤ S.n; omega) (by show S.n - (ii + 1) < S.n - ii; omega)
            ·
              first | exact wrap_nat64 _ (by simp; omega) (by simp; omega) | exact hlp | (first | exact prev_fr h (by omega) (by omega) (by omega) | exact prev_ix (by omega) (by omega) (by omega) | exact prev_in (by omega) (by omega) (by omega)) | (rw [hu]; simp; done) | (simp only [bne_iff_ne, bne_eq_false_iff_eq, beq_iff_eq, beq_eq_false_iff_ne, decide_eq_true_eq, decide_eq_false_iff_not, Bool.not_eq_true', Bool.not_eq_false', ne_eq, gt_iff_lt, ge_iff_le, Int.not_lt, Int.not_le, Decidable.not_not] at *; omega) | (simp only [bne_iff_ne, bne_eq_false_iff_eq, beq_iff_eq, beq_eq_false_iff_ne, decide_eq_true_eq, decide_eq_false_iff_not, Bool.not_eq_true', Bool.not_eq_false', ne_eq, gt_iff_lt, ge_iff_le, Int.not_lt, Int.not_le, Decidable.not_not] at *; simp_all; done) | (simp_all; omega) | (simp; omega)
            ·
              first | (apply Nat.ble_eq_true_of_le; omega) | (simp [Nat.blt_eq]; omega) | exact hlp | (first | exact prev_fr h (by omega) (by omega) (by omega) | exact prev_ix (by omega) (by omega) (by omega) | exact prev_in (by omega) (by omega) (by omega)) | (rw [hu]; simp; done) | (simp only [bne_iff_ne, bne_eq_false_iff_eq, beq_iff_eq, beq_eq_false_iff_ne, decide_eq_true_eq, decide_eq_false_iff_not, Bool.not_eq_true', Bool.not_eq_false', ne_eq, gt_iff_lt, ge_iff_le, Int.not_lt, Int.not_le, Decidable.not_not] at *; omega) | (simp only [bne_iff_ne, bne_eq_false_iff_eq, beq_iff_eq, beq_eq_false_iff_ne, decide_eq_true_eq, decide_eq_false_iff_not, Bool.not_eq_true', Bool.not_eq_false', ne_eq, gt_iff_lt, ge_iff_le, Int.not_lt, Int.not_le, Decidable.not_not] at *; simp_all; done) | (simp_all; omega) | (simp; omega)
            ·
              first | trivial | exact hlp | (first | exact prev_fr h (by omega) (by omega) (by omega) | exact prev_ix (by omega) (by omega) (by omega) | exact prev_in (by omega) (by omega) (by omega)) | (rw [hu]; simp; done) | (simp only [bne_iff_ne, bne_eq_false_iff_eq, beq_iff_eq, beq_eq_false_iff_ne, decide_eq_true_eq, decide_eq_false_iff_not, Bool.not_eq_true', Bool.not_eq_false', ne_eq, gt_iff_lt, ge_iff_le, Int.not_lt, Int.not_le, Decidable.not_not] at *; omega) | (simp only [bne_iff_ne, bne_eq_false_iff_eq, beq_iff_eq, beq_eq_false_iff_ne, decide_eq_true_eq, decide_eq_false_iff_not, Bool.not_eq_true', Bool.not_eq_false', ne_eq, gt_iff_lt, ge_iff_le, Int.not_lt, Int.not_le, Decidable.not_not] at *; simp_all; done) | (simp_all; omega) | (simp; omega)
            ·
              first | (apply Nat.ble_eq_true_of_le; omega) | (simp [Nat.blt_eq]; omega) | exact hlp | (first | exact prev_fr h (by omega) (by omega) (by omega) | exact prev_ix (by omega) (by omega) (by omega) | exact prev_in (by omega) (by omega) (by omega)) | (rw [hu]; simp; done) | (simp only [bne_iff_ne, bne_eq_false_iff_eq, beq_iff_eq, beq_eq_false_iff_ne, decide_eq_true_eq, decide_eq_false_iff_not, Bool.not_eq_true', Bool.not_eq_false', ne_eq, gt_iff_lt, ge_iff_le, Int.not_lt, Int.not_le, Decidable.not_not] at *; omega) | (simp only [bne_iff_ne, bne_eq_false_iff_eq, beq_iff_eq, beq_eq_false_iff_ne, decide_eq_true_eq, decide_eq_false_iff_not, Bool.not_eq_true', Bool.not_eq_false', ne_eq, gt_iff_lt, ge_iff_le, Int.not_lt, Int.not_le, Decidable.not_not] at *; simp_all; done) | (simp_all; omega) | (simp; omega)
            ·
              first | (apply Nat.ble_eq_true_of_le; omega) | (simp [Nat.blt_eq]; omega) | exact hlp | (first | exact prev_fr h (by omega) (by omega) (by omega) | exact prev_ix (by omega) (by omega) (by omega) | exact prev_in (by omega) (by omega) (by omega)) | (rw [hu]; simp; done) | (simp only [bne_iff_ne, bne_eq_false_iff_eq, beq_iff_eq, beq_eq_false_iff_ne, decide_eq_true_eq, decide_eq_false_iff_not, Bool.not_eq_true', Bool.not_eq_false', ne_eq, gt_iff_lt, ge_iff_le, Int.not_lt, Int.not_le, Decidable.not_not] at *; omega) | (simp only [bne_iff_ne, bne_eq_false_iff_eq, beq_iff_eq, beq_eq_false_iff_ne, decide_eq_true_eq, decide_eq_false_iff_not, Bool.not_eq_true', Bool.not_eq_false', ne_eq, gt_iff_lt, ge_iff_le, Int.not_lt, Int.not_le, Decidable.not_not] at *; simp_all; done) | (simp_all; omega) | (simp; omega)
            ·
              first | (apply Nat.ble_eq_true_of_le; omega) | (simp [Nat.blt_eq]; omega) | exact hlp | (first | exact prev_fr h (by omega) (by omega) (by omega) | exact prev_ix (by omega) (by omega) (by omega) | exact prev_in (by omega) (by omega) (by omega)) | (rw [hu]; simp; done) | (simp only [bne_iff_ne, bne_eq_false_iff_eq, beq_iff_eq, beq_eq_false_iff_ne, decide_eq_true_eq, decide_eq_false_iff_not, Bool.not_eq_true', Bool.not_eq_false', ne_eq, gt_iff_lt, ge_iff_le, Int.not_lt, Int.not_le, Decidable.not_not] at *; omega) | (simp only [bne_iff_ne, bne_eq_false_iff_eq, beq_iff_eq, beq_eq_false_iff_ne, decide_eq_true_eq, decide_eq_false_iff_not, Bool.not_eq_true', Bool.not_eq_false', ne_eq, gt_iff_lt, ge_iff_le, Int.not_lt, Int.not_le, Decidable.not_not] at *; simp_all; done) | (simp_all; omega) | (simp; omega)
            ·
              first | (apply Nat.ble_eq_true_of_le; omega) | (simp [Nat.blt_eq]; omega) | exact hlp | (first | exact prev_fr h (by omega) (by omega) (by omega) | exact prev_ix (by omega) (by omega) (by omega) | exact prev_in (by omega) (by omega) (by omega)) | (rw [hu]; simp; done) | (simp only [bne_iff_ne, bne_eq_false_iff_eq, beq_iff_eq, beq_eq_false_iff_ne, decide_eq_true_eq, decide_eq_false_iff_not, Bool.not_eq_true', Bool.not_eq_false', ne_eq, gt_iff_lt, ge_iff_le, Int.not_lt, Int.not_le, Decidable.not_not] at *; omega) | (simp only [bne_iff_ne, bne_eq_false_iff_eq, beq_iff_eq, beq_eq_false_iff_ne, decide_eq_true_eq, decide_eq_false_iff_not, Bool.not_eq_true', Bool.not_eq_false', ne_eq, gt_iff_lt, ge_iff_le, Int.not_lt, Int.not_le, Decidable.not_not] at *; simp_all; done) | (simp_all; omega) | (simp; omega)
            ·
              first | (apply Nat.ble_eq_true_of_le; omega) | (simp [Nat.blt_eq]; omega) | exact hlp | (first | exact prev_fr h (by omega) (by omega) (by omega) | exact prev_ix (by omega) (by omega) (by omega) | exact prev_in (by omega) (by omega) (by omega)) | (rw [hu]; simp; done) | (simp only [bne_iff_ne, bne_eq_false_iff_eq, beq_iff_eq, beq_eq_false_iff_ne, decide_eq_true_eq, decide_eq_false_iff_not, Bool.not_eq_true', Bool.not_eq_false', ne_eq, gt_iff_lt, ge_iff_le, Int.not_lt, Int.not_le, Decidable.not_not] at *; omega) | (simp only [bne_iff_ne, bne_eq_false_iff_eq, beq_iff_eq, beq_eq_false_iff_ne, decide_eq_true_eq, decide_eq_false_iff_not, Bool.not_eq_true', Bool.not_eq_false', ne_eq, gt_iff_lt, ge_iff_le, Int.not_lt, Int.not_le, Decidable.not_not] at *; simp_all; done) | (simp_all; omega) | (simp; omega)
            ·
              first | (apply Nat.ble_eq_true_of_le; omega) | (simp [Nat.blt_eq]; omega) | exact hlp | (first | exact prev_fr h (by omega) (by omega) (by omega) | exact prev_ix (by omega) (by omega) (by omega) | exact prev_in (by omega) (by omega) (by omega)) | (rw [hu]; simp; done) | (simp only [bne_iff_ne, bne_eq_false_iff_eq, beq_iff_eq, beq_eq_false_iff_ne, decide_eq_true_eq, decide_eq_false_iff_not, Bool.not_eq_true', Bool.not_eq_false', ne_eq, gt_iff_lt, ge_iff_le, Int.not_lt, Int.not_le, Decidable.not_not] at *; omega) | (simp only [bne_iff_ne, bne_eq_false_iff_eq, beq_iff_eq, beq_eq_false_iff_ne, decide_eq_true_eq, decide_eq_false_iff_not, Bool.not_eq_true', Bool.not_eq_false', ne_eq, gt_iff_lt, ge_iff_le, Int.not_lt, Int.not_le, Decidable.not_not] at *; simp_all; done) | (simp_all; omega) | (simp; omega)
            ·
              first | (apply Nat.ble_eq_true_of_le; omega) | (simp [Nat.blt_eq]; omega) | exact hlp | (first | exact prev_fr h (by omega) (by omega) (by omega) | exact prev_ix (by omega) (by omega) (by omega) | exact prev_in (by omega) (by omega) (by omega)) | (rw [hu]; simp; done) | (simp only [bne_iff_ne, bne_eq_false_iff_eq, beq_iff_eq, beq_eq_false_iff_ne, decide_eq_true_eq, decide_eq_false_iff_not, Bool.not_eq_true', Bool.not_eq_false', ne_eq, gt_iff_lt, ge_iff_le, Int.not_lt, Int.not_le, Decidable.not_not] at *; omega) | (simp only [bne_iff_ne, bne_eq_false_iff_eq, beq_iff_eq, beq_eq_false_iff_ne, decide_eq_true_eq, decide_eq_false_iff_not, Bool.not_eq_true', Bool.not_eq_false', ne_eq, gt_iff_lt, ge_iff_le, Int.not_lt, Int.not_le, Decidable.not_not] at *; simp_all; done) | (simp_all; omega) | (simp; omega)
            ·
              first | (apply Nat.ble_eq_true_of_le; omega) | (simp [Nat.blt_eq]; omega) | exact hlp | (first | exact prev_fr h (by omega) (by omega) (by omega) | exact prev_ix (by omega) (by omega) (by omega) | exact prev_in (by omega) (by omega) (by omega)) | (rw [hu]; simp; done) | (simp only [bne_iff_ne, bne_eq_false_iff_eq, beq_iff_eq, beq_eq_false_iff_ne, decide_eq_true_eq, decide_eq_false_iff_not, Bool.not_eq_true', Bool.not_eq_false', ne_eq, gt_iff_lt, ge_iff_le, Int.not_lt, Int.not_le, Decidable.not_not] at *; omega) | (simp only [bne_iff_ne, bne_eq_false_iff_eq, beq_iff_eq, beq_eq_false_iff_ne, decide_eq_true_eq, decide_eq_false_iff_not, Bool.not_eq_true', Bool.not_eq_false', ne_eq, gt_iff_lt, ge_iff_le, Int.not_lt, Int.not_le, Decidable.not_not] at *; simp_all; done) | (simp_all; omega) | (simp; omega)
            ·
              first | (apply Nat.ble_eq_true_of_le; omega) | (simp [Nat.blt_eq]; omega) | exact hlp | (first | exact prev_fr h (by omega) (by omega) (by omega) | exact prev_ix (by omega) (by omega) (by omega) | exact prev_in (by omega) (by omega) (by omega)) | (rw [hu]; simp; done) | (simp only [bne_iff_ne, bne_eq_false_iff_eq, beq_iff_eq, beq_eq_false_iff_ne, decide_eq_true_eq, decide_eq_false_iff_not, Bool.not_eq_true', Bool.not_eq_false', ne_eq, gt_iff_lt, ge_iff_le, Int.not_lt, Int.not_le, Decidable.not_not] at *; omega) | (simp only [bne_iff_ne, bne_eq_false_iff_eq, beq_iff_eq, beq_eq_false_iff_ne, decide_eq_true_eq, decide_eq_false_iff_not, Bool.not_eq_true', Bool.not_eq_false', ne_eq, gt_iff_lt, ge_iff_le, Int.not_lt, Int.not_le, Decidable.not_not] at *; simp_all; done) | (simp_all; omega) | (simp; omega)
            ·
              first | (apply Nat.ble_eq_true_of_le; omega) | (simp [Nat.blt_eq]; omega) | exact hlp | (first | exact prev_fr h (by omega) (by omega) (by omega) | exact prev_ix (by omega) (by omega) (by omega) | exact prev_in (by omega) (by omega) (by omega)) | (rw [hu]; simp; done) | (simp only [bne_iff_ne, bne_eq_false_iff_eq, beq_iff_eq, beq_eq_false_iff_ne, decide_eq_true_eq, decide_eq_false_iff_not, Bool.not_eq_true', Bool.not_eq_false', ne_eq, gt_iff_lt, ge_iff_le, Int.not_lt, Int.not_le, Decidable.not_not] at *; omega) | (simp only [bne_iff_ne, bne_eq_false_iff_eq, beq_iff_eq, beq_eq_false_iff_ne, decide_eq_true_eq, decide_eq_false_iff_not, Bool.not_eq_true', Bool.not_eq_false', ne_eq, gt_iff_lt, ge_iff_le, Int.not_lt, Int.not_le, Decidable.not_not] at *; simp_all; done) | (simp_all; omega) | (simp; omega)
        | false =>
          have g4 := of_decide_eq_false h4
          try simp only [Int.ofNat_eq_natCast, ge_iff_le, gt_iff_lt, Int.not_lt, Int.not_le] at g4
          cases h6 : ((S.C (0 + ii)).5 == 1) with
          | true =>
            have hc : ClOk S.last (S.C (0 + ii)) := (by rw [Nat.zero_add]; exact h.ok ii (by omega))
            obtain ⟨⟨c1, c2, c3, c4⟩, c5, c6, c7, c8⟩ := hc
            have hu := und_iff h (by omega : ii < S.n)
            have hlp := inn_lp S.n ii S.C (by omega) (by omega) (ord_at h (by omega))
            refine round_norm (s0 := jU S) (ii + 1) (jj_3 ..) (ob_cons rfl (ob_cons rfl (ob_cons rfl (ob_cons rfl (ob_cons rfl (ob_cons ?_ (ob_cons rfl (ob_cons rfl (ob_cons rfl (ob_cons rfl (ob_cons rfl (ob_cons (Nat.le_refl _) (ob_cons (.inl ⟨rfl, rfl⟩) (ob_cons (fun _ => rfl) (ob_cons rfl (ob_cons (Nat.le_refl _) (ob_cons (.inl ⟨rfl, rfl⟩) (ob_cons ?_ (ob_cons ?_ (ob_cons ?_ (ob_cons h6 (ob_cons ?_ (ob_cons h3 (ob_cons h4 (ob_cons ?_ (ob_cons h3 (ob_cons ?_ (ob_cons h2 (ob_cons ?_ (ob_cons ?_ (ob_cons ?_ (ob_cons h1 ob_nil)))))))))))))))))))))))))))))))) (by show ii + 1 ≤ S.n; omega) (by show S.n - (ii + 1) < S.n - ii; omega)
            ·
              first | exact wrap_nat64 _ (by simp; omega) (by simp; omega) | exact hlp | (first | exact prev_fr h (by omega) (by omega) (by omega) | exact prev_ix (by omega) (by omega) (by omega) | exact prev_in (by omega) (by omega) (by omega)) | (rw [hu]; simp; done) | (simp only [bne_iff_ne, bne_eq_false_iff_eq, beq_iff_eq, beq_eq_false_iff_ne, decide_eq_true_eq, decide_eq_false_iff_not, Bool.not_eq_true', Bool.not_eq_false', ne_eq, gt_iff_lt, ge_iff_le, Int.not_lt, Int.not_le, Decidable.not_not] at *; omega) | (simp only [bne_iff_ne, bne_eq_false_iff_eq, beq_iff_eq, beq_eq_false_iff_ne, decide_eq_true_eq, decide_eq_false_iff_not, Bool.not_eq_true', Bool.not_eq_false', ne_eq, gt_iff_lt, ge_iff_le, Int.not_lt, Int.not_le, Decidable.not_not] at *; simp_all; done) | (simp_all; omega) | (simp; omega)
            ·
              first | (apply Nat.ble_eq_true_of_le; omega) | (simp [Nat.blt_eq]; omega) | exact hlp | (first | exact prev_fr h (by omega) (by omega) (by omega) | exact prev_ix (by omega) (by omega) (by omega) | exact prev_in (by omega) (by omega) (by omega)) | (rw [hu]; simp; done) | (simp only [bne_iff_ne, bne_eq_false_iff_eq, beq_iff_eq, beq_eq_false_iff_ne, decide_eq_true_eq, decide_eq_false_iff_not, Bool.not_eq_true', Bool.not_eq_false', ne_eq, gt_iff_lt, ge_iff_le, Int.not_lt, Int.not_le, Decidable.not_not] at *; omega) | (simp only [bne_iff_ne, bne_eq_false_iff_eq, beq_iff_eq, beq_eq_false_iff_ne, decide_eq_true_eq, decide_eq_false_iff_not, Bool.not_eq_true', Bool.not_eq_false', ne_eq, gt_iff_lt, ge_iff_le, Int.not_lt, Int.not_le, Decidable.not_not] at *; simp_all; done) | (simp_all; omega) | (simp; omega)
            ·
              first | trivial | exact hlp | (first | exact prev_fr h (by omega) (by omega) (by omega) | exact prev_ix (by omega) (by omega) (by omega) | exact prev_in (by omega) (by omega) (by omega)) | (rw [hu]; simp; done) | (simp only [bne_iff_ne, bne_eq_false_iff_eq, beq_iff_eq, beq_eq_false_iff_ne, decide_eq_true_eq, decide_eq_false_iff_not, Bool.not_eq_true', Bool.not_eq_false', ne_eq, gt_iff_lt, ge_iff_le, Int.not_lt, Int.not_le, Decidable.not_not] at *; omega) | (simp only [bne_iff_ne, bne_eq_false_iff_eq, beq_iff_eq, beq_eq_false_iff_ne, decide_eq_true_eq, decide_eq_false_iff_not, Bool.not_eq_true', Bool.not_eq_false', ne_eq, gt_iff_lt, ge_iff_le, Int.not_lt, Int.not_le, Decidable.not_not] at *; simp_all; done) | (simp_all; omega) | (simp; omega)
            ·
              first | (apply Nat.ble_eq_true_of_le; omega) | (simp [Nat.blt_eq]; omega) | exact hlp | (first | exact prev_fr h (by omega) (by omega) (by omega) | exact prev_ix (by omega) (by omega) (by omega) | exact prev_in (by omega) (by omega) (by omega)) | (rw [hu]; simp; done) | (simp only [bne_iff_ne, bne_eq_false_iff_eq, beq_iff_eq, beq_eq_false_iff_ne, decide_eq_true_eq, decide_eq_false_iff_not, Bool.not_eq_true', Bool.not_eq_false', ne_eq, gt_iff_lt, ge_iff_le, Int.not_lt, Int.not_le, Decidable.not_not] at *; omega) | (simp only [bne_iff_ne, bne_eq_false_iff_eq, beq_iff_eq, beq_eq_false_iff_ne, decide_eq_true_eq, decide_eq_false_iff_not, Bool.not_eq_true', Bool.not_eq_false', ne_eq, gt_iff_lt, ge_iff_le, Int.not_lt, Int.not_le, Decidable.not_not] at *; simp_all; done) | (simp_all; omega) | (simp; omega)
            ·
              first | (apply Nat.ble_eq_true_of_le; omega) | (simp [Nat.blt_eq]; omega) | exact hlp | (first | exact prev_fr h (by omega) (by omega) (by omega) | exact prev_ix (by omega) (by omega) (by omega) | exact prev_in (by omega) (by omega) (by omega)) | (rw [hu]; simp; done) | (simp only [bne_iff_ne, bne_eq_false_iff_eq, beq_iff_eq, beq_eq_false_iff_ne, decide_eq_true_eq, decide_eq_false_iff_not, Bool.not_eq_true', Bool.not_eq_false', ne_eq, gt_iff_lt, ge_iff_le, Int.not_lt, Int.not_le, Decidable.not_not] at *; omega) | (simp only [bne_iff_ne, bne_eq_false_iff_eq, beq_iff_eq, beq_eq_false_iff_ne, decide_eq_true_eq, decide_eq_false_iff_not, Bool.not_eq_true', Bool.not_eq_false', ne_eq, gt_iff_lt, ge_iff_le, Int.not_lt, Int.not_le, Decidable.not_not] at *; simp_all; done) | (simp_all; omega) | (simp; omega)
            ·
              first | (apply Nat.ble_eq_true_of_le; omega) | (simp [Nat.blt_eq]; omega) | exact hlp | (first | exact prev_fr h (by omega) (by omega) (by omega) | exact prev_ix (by omega) (by omega) (by omega) | exact prev_in (by omega) (by omega) (by omega)) | (rw [hu]; simp; done) | (simp only [bne_iff_ne, bne_eq_false_iff_eq, beq_iff_eq, beq_eq_false_iff_ne, decide_eq_true_eq, decide_eq_false_iff_not, Bool.not_eq_true', Bool.not_eq_false', ne_eq, gt_iff_lt, ge_iff_le, Int.not_lt, Int.not_le, Decidable.not_not] at *; omega) | (simp only [bne_iff_ne, bne_eq_false_iff_eq, beq_iff_eq, beq_eq_false_iff_ne, decide_eq_true_eq, decide_eq_false_iff_not, Bool.not_eq_true', Bool.not_eq_false', ne_eq, gt_iff_lt, ge_iff_le, Int.not_lt, Int.not_le, Decidable.not_not] at *; simp_all; done) | (simp_all; omega) | (simp; omega)
            ·
              first | (apply Nat.ble_eq_true_of_le; omega) | (simp [Nat.blt_eq]; omega) | exact hlp | (first | exact prev_fr h (by omega) (by omega) (by omega) | exact prev_ix (by omega) (by omega) (by omega) | exact prev_in (by omega) (by omega) (by omega)) | (rw [hu]; simp; done) | (simp only [bne_iff_ne, bne_eq_false_iff_eq, beq_iff_eq, beq_eq_false_iff_ne, decide_eq_true_eq, decide_eq_false_iff_not, Bool.not_eq_true', Bool.not_eq_false', ne_eq, gt_iff_lt, ge_iff_le, Int.not_lt, Int.not_le, Decidable.not_not] at *; omega) | (simp only [bne_iff_ne, bne_eq_false_iff_eq, beq_iff_eq, beq_eq_false_iff_ne, decide_eq_true_eq, decide_eq_false_iff_not, Bool.not_eq_true', Bool.not_eq_false', ne_eq, gt_iff_lt, ge_iff_le, Int.not_lt, Int.not_le, Decidable.not_not] at *; simp_all; done) | (simp_all; omega) | (simp; omega)
            ·
              first | (apply Nat.ble_eq_true_of_le; omega) | (simp [Nat.blt_eq]; omega) | exact hlp | (first | exact prev_fr h (by omega) (by omega) (by omega) | exact prev_ix (by omega) (by omega) (by omega) | exact prev_in (by omega) (by omega) (by omega)) | (rw [hu]; simp; done) | (simp only [bne_iff_ne, bne_eq_false_iff_eq, beq_iff_eq, beq_eq_false_iff_ne, decide_eq_true_eq, decide_eq_false_iff_not, Bool.not_eq_true', Bool.not_eq_false', ne_eq, gt_iff_lt, ge_iff_le, Int.not_lt, Int.not_le, Decidable.not_not] at *; omega) | (simp only [bne_iff_ne, bne_eq_false_iff_eq, beq_iff_eq, beq_eq_false_iff_ne, decide_eq_true_eq, decide_eq_false_iff_not, Bool.not_eq_true', Bool.not_eq_false', ne_eq, gt_iff_lt, ge_iff_le, Int.not_lt, Int.not_le, Decidable.not_not] at *; simp_all; done) | (simp_all; omega) | (simp; omega)
            ·
              first | (apply Nat.ble_eq_true_of_le; omega) | (simp [Nat.blt_eq]; omega) | exact hlp | (first | exact prev_fr h (by omega) (by omega) (by omega) | exact prev_ix (by omega) (by omega) (by omega) | exact prev_in (by omega) (by omega) (by omega)) | (rw [hu]; simp; done) | (simp only [bne_iff_ne, bne_eq_false_iff_eq, beq_iff_eq, beq_eq_false_iff_ne, decide_eq_true_eq, decide_eq_false_iff_not, Bool.not_eq_true', Bool.not_eq_false', ne_eq, gt_iff_lt, ge_iff_le, Int.not_lt, Int.not_le, Decidable.not_not] at *; omega) | (simp only [bne_iff_ne, bne_eq_false_iff_eq, beq_iff_eq, beq_eq_false_iff_ne, decide_eq_true_eq, decide_eq_false_iff_not, Bool.not_eq_true', Bool.not_eq_false', ne_eq, gt_iff_lt, ge_iff_le, Int.not_lt, Int.not_le, Decidable.not_not] at *; simp_all; done) | (simp_all; omega) | (simp; omega)
            ·
              first | (apply Nat.ble_eq_true_of_le; omega) | (simp [Nat.blt_eq]; omega) | exact hlp | (first | exact prev_fr h (by omega) (by omega) (by omega) | exact prev_ix (by omega) (by omega) (by omega) | exact prev_in (by omega) (by omega) (by omega)) | (rw [hu]; simp; done) | (simp only [bne_iff_ne, bne_eq_false_iff_eq, beq_iff_eq, beq_eq_false_iff_ne, decide_eq_true_eq, decide_eq_false_iff_not, Bool.not_eq_true', Bool.not_eq_false', ne_eq, gt_iff_lt, ge_iff_le, Int.not_lt, Int.not_le, Decidable.not_not] at *; omega) | (simp only [bne_iff_ne, bne_eq_false_iff_eq, beq_iff_eq, beq_eq_false_iff_ne, decide_eq_true_eq, decide_eq_false_iff_not, Bool.not_eq_true', Bool.not_eq_false', ne_eq, gt_iff_lt, ge_iff_le, Int.not_lt, Int.not_le, Decidable.not_not] at *; simp_all; done) | (simp_all; omega) | (simp; omega)
          | false =>
            have hc : ClOk S.last (S.C (0 + ii)) := (by rw [Nat.zero_add]; exact h.ok ii (by omega))
            obtain ⟨⟨c1, c2, c3, c4⟩, c5, c6, c7, c8⟩ := hc
            have hu := und_iff h (by omega : ii < S.n)
            have hlp := inn_lp S.n ii S.C (by omega) (by omega) (ord_at h (by omega))
            refine round_norm (s0 := jU S) (ii + 1) (jj_4 ..) (ob_cons rfl (ob_cons rfl (ob_cons rfl (ob_cons rfl (ob_cons rfl (ob_cons ?_ (ob_cons rfl (ob_cons rfl (ob_cons rfl (ob_cons rfl (ob_cons rfl (ob_cons (Nat.le_refl _) (ob_cons (.inl ⟨rfl, rfl⟩) (ob_cons (fun _ => rfl) (ob_cons rfl (ob_cons (Nat.le_refl _) (ob_cons (.inl ⟨rfl, rfl⟩) (ob_cons ?_ (ob_cons ?_ (ob_cons ?_ (ob_cons h6 (ob_cons ?_ (ob_cons h3 (ob_cons h4 (ob_cons ?_ (ob_cons h3 (ob_cons ?_ (ob_cons h2 (ob_cons ?_ (ob_cons ?_ (ob_cons ?_ (ob_cons h1 ob_nil)))))))))))))))))))))))))))))))) (by show ii + 1 ≤ S.n; omega) (by show S.n - (ii + 1) < S.n - ii; omega)
            ·
              first | exact wrap_nat64 _ (by simp; omega) (by simp; omega) | exact hlp | (first | exact prev_fr h (by omega) (by omega) (by omega) | exact prev_ix (by omega) (by omega) (by omega) | exact prev_in (by omega) (by omega) (by omega)) | (rw [hu]; simp; done) | (simp only [bne_iff_ne, bne_eq_false_iff_eq, beq_iff_eq, beq_eq_false_iff_ne, decide_eq_true_eq, decide_eq_false_iff_not, Bool.not_eq_true', Bool.not_eq_false', ne_eq, gt_iff_lt, ge_iff_le, Int.not_lt, Int.not_le, Decidable.not_not] at *; omega) | (simp only [bne_iff_ne, bne_eq_false_iff_eq, beq_iff_eq, beq_eq_false_iff_ne, decide_eq_true_eq, decide_eq_false_iff_not, Bool.not_eq_true', Bool.not_eq_false', ne_eq, gt_iff_lt, ge_iff_le, Int.not_lt, Int.not_le, Decidable.not_not] at *; simp_all; done) | (simp_all; omega) | (simp; omega)
            ·
              first | (apply Nat.ble_eq_true_of_le; omega) | (simp [Nat.blt_eq]; omega) | exact hlp | (first | exact prev_fr h (by omega) (by omega) (by omega) | exact prev_ix (by omega) (by omega) (by omega) | exact prev_in (by omega) (by omega) (by omega)) | (rw [hu]; simp; done) | (simp only [bne_iff_ne, bne_eq_false_iff_eq, beq_iff_eq, beq_eq_false_iff_ne, decide_eq_true_eq, decide_eq_false_iff_not, Bool.not_eq_true', Bool.not_eq_false', ne_eq, gt_iff_lt, ge_iff_le, Int.not_lt, Int.not_le, Decidable.not_not] at *; omega) | (simp only [bne_iff_ne, bne_eq_false_iff_eq, beq_iff_eq, beq_eq_false_iff_ne, decide_eq_true_eq, decide_eq_false_iff_not, Bool.not_eq_true', Bool.not_eq_false', ne_eq, gt_iff_lt, ge_iff_le, Int.not_lt, Int.not_le, Decidable.not_not] at *; simp_all; done) | (simp_all; omega) | (simp; omega)
            ·
              first | trivial | exact hlp | (first | exact prev_fr h (by omega) (by omega) (by omega) | exact prev_ix (by omega) (by omega) (by omega) | exact prev_in (by omega) (by omega) (by omega)) | (rw [hu]; simp; done) | (simp only [bne_iff_ne, bne_eq_false_iff_eq, beq_iff_eq, beq_eq_false_iff_ne, decide_eq_true_eq, decide_eq_false_iff_not, Bool.not_eq_true', Bool.not_eq_false', ne_eq, gt_iff_lt, ge_iff_le, Int.not_lt, Int.not_le, Decidable.not_not] at *; omega) | (simp only [bne_iff_ne, bne_eq_false_iff_eq, beq_iff_eq, beq_eq_false_iff_ne, decide_eq_true_eq, decide_eq_false_iff_not, Bool.not_eq_true', Bool.not_eq_false', ne_eq, gt_iff_lt, ge_iff_le, Int.not_lt, Int.not_le, Decidable.not_not] at *; simp_all; done) | (simp_all; omega) | (simp; omega)
            ·
              first | (apply Nat.ble_eq_true_of_le; omega) | (simp [Nat.blt_eq]; omega) | exact hlp | (first | exact prev_fr h (by omega) (by omega) (by omega) | exact prev_ix (by omega) (by omega) (by omega) | exact prev_in (by omega) (by omega) (by omega)) | (rw [hu]; simp; done) | (simp only [bne_iff_ne, bne_eq_false_iff_eq, beq_iff_eq, beq_eq_false_iff_ne, decide_eq_true_eq, decide_eq_false_iff_not, Bool.not_eq_true', Bool.not_eq_false', ne_eq, gt_iff_lt, ge_iff_le, Int.not_lt, Int.not_le, Decidable.not_not] at *; omega) | (simp only [bne_iff_ne, bne_eq_false_iff_eq, beq_iff_eq, beq_eq_false_iff_ne, decide_eq_true_eq, decide_eq_false_iff_not, Bool.not_eq_true', Bool.not_eq_false', ne_eq, gt_iff_lt, ge_iff_le, Int.not_lt, Int.not_le, Decidable.not_not] at *; simp_all; done) | (simp_all; omega) | (simp; omega)
            ·
              first | (apply Nat.ble_eq_true_of_le; omega) | (simp [Nat.blt_eq]; omega) | exact hlp | (first | exact prev_fr h (by omega) (by omega) (by omega) | exact prev_ix (by omega) (by omega) (by omega) | exact prev_in (by omega) (by omega) (by omega)) | (rw [hu]; simp; done) | (simp only [bne_iff_ne, bne_eq_false_iff_eq, beq_iff_eq, beq_eq_false_iff_ne, decide_eq_true_eq, decide_eq_false_iff_not, Bool.not_eq_true', Bool.not_eq_false', ne_eq, gt_iff_lt, ge_iff_le, Int.not_lt, Int.not_le, Decidable.not_not] at *; omega) | (simp only [bne_iff_ne, bne_eq_false_iff_eq, beq_iff_eq, beq_eq_false_iff_ne, decide_eq_true_eq, decide_eq_false_iff_not, Bool.not_eq_true', Bool.not_eq_false', ne_eq, gt_iff_lt, ge_iff_le, Int.not_lt, Int.not_le, Decidable.not_not] at *; simp_all; done) | (simp_all; omega) | (simp; omega)
            ·
              first | (apply Nat.ble_eq_true_of_le; omega) | (simp [Nat.blt_eq]; omega) | exact hlp | (first | exact prev_fr h (by omega) (by omega) (by omega) | exact prev_ix (by omega) (by omega) (by omega) | exact prev_in (by omega) (by omega) (by omega)) | (rw [hu]; simp; done) | (simp only [bne_iff_ne, bne_eq_false_iff_eq, beq_iff_eq, beq_eq_false_iff_ne, decide_eq_true_eq, decide_eq_false_iff_not, Bool.not_eq_true', Bool.not_eq_false', ne_eq, gt_iff_lt, ge_iff_le, Int.not_lt, Int.not_le, Decidable.not_not] at *; omega) | (simp only [bne_iff_ne, bne_eq_false_iff_eq, beq_iff_eq, beq_eq_false_iff_ne, decide_eq_true_eq, decide_eq_false_iff_not, Bool.not_eq_true', Bool.not_eq_false', ne_eq, gt_iff_lt, ge_iff_le, Int.not_lt, Int.not_le, Decidable.not_not] at *; simp_all; done) | (simp_all; omega) | (simp; omega)
            ·
              first | (apply Nat.ble_eq_true_of_le; omega) | (simp [Nat.blt_eq]; omega) | exact hlp | (first | exact prev_fr h (by omega) (by omega) (by omega) | exact prev_ix (by omega) (by omega) (by omega) | exact prev_in (by omega) (by omega) (by omega)) | (rw [hu]; simp; done) | (simp only [bne_iff_ne, bne_eq_false_iff_eq, beq_iff_eq, beq_eq_false_iff_ne, decide_eq_true_eq, decide_eq_false_iff_not, Bool.not_eq_true', Bool.not_eq_false', ne_eq, gt_iff_lt, ge_iff_le, Int.not_lt, Int.not_le, Decidable.not_not] at *; omega) | (simp only [bne_iff_ne, bne_eq_false_iff_eq, beq_iff_eq, beq_eq_false_iff_ne, decide_eq_true_eq, decide_eq_false_iff_not, Bool.not_eq_true', Bool.not_eq_false', ne_eq, gt_iff_lt, ge_iff_le, Int.not_lt, Int.not_le, Decidable.not_not] at *; simp_all; done) | (simp_all; omega) | (simp; omega)
            ·
              first | (apply Nat.ble_eq_true_of_le; omega) | (simp [Nat.blt_eq]; omega) | exact hlp | (first | exact prev_fr h (by omega) (by omega) (by omega) | exact prev_ix (by omega) (by omega) (by omega) | exact prev_in (by omega) (by omega) (by omega)) | (rw [hu]; simp; done) | (simp only [bne_iff_ne, bne_eq_false_iff_eq, beq_iff_eq, beq_eq_false_iff_ne, decide_eq_true_eq, decide_eq_false_iff_not, Bool.not_eq_true', Bool.not_eq_false', ne_eq, gt_iff_lt, ge_iff_le, Int.not_lt, Int.not_le, Decidable.not_not] at *; omega) | (simp only [bne_iff_ne, bne_eq_false_iff_eq, beq_iff_eq, beq_eq_false_iff_ne, decide_eq_true_eq, decide_eq_false_iff_not, Bool.not_eq_true', Bool.not_eq_false', ne_eq, gt_iff_lt, ge_iff_le, Int.not_lt, Int.not_le, Decidable.not_not] at *; simp_all; done) | (simp_all; omega) | (simp; omega)
            ·
              first | (apply Nat.ble_eq_true_of_le; omega) | (simp [Nat.blt_eq]; omega) | exact hlp | (first | exact prev_fr h (by omega) (by omega) (by omega) | exact prev_ix (by omega) (by omega) (by omega) | exact prev_in (by omega) (by omega) (by omega)) | (rw [hu]; simp; done) | (simp only [bne_iff_ne, bne_eq_false_iff_eq, beq_iff_eq, beq_eq_false_iff_ne, decide_eq_true_eq, decide_eq_false_iff_not, Bool.not_eq_true', Bool.not_eq_false', ne_eq, gt_iff_lt, ge_iff_le, Int.not_lt, Int.not_le, Decidable.not_not] at *; omega) | (simp only [bne_iff_ne, bne_eq_false_iff_eq, beq_iff_eq, beq_eq_false_iff_ne, decide_eq_true_eq, decide_eq_false_iff_not, Bool.not_eq_true', Bool.not_eq_false', ne_eq, gt_iff_lt, ge_iff_le, Int.not_lt, Int.not_le, Decidable.not_not] at *; simp_all; done) | (simp_all; omega) | (simp; omega)
            ·
              first | (apply Nat.ble_eq_true_of_le; omega) | (simp [Nat.blt_eq]; omega) | exact hlp | (first | exact prev_fr h (by omega) (by omega) (by omega) | exact prev_ix (by omega) (by omega) (by omega) | exact prev_in (by omega) (by omega) (by omega)) | (rw [hu]; simp; done) | (simp only [bne_iff_ne, bne_eq_false_iff_eq, beq_iff_eq, beq_eq_false_iff_ne, decide_eq_true_eq, decide_eq_false_iff_not, Bool.not_eq_true', Bool.not_eq_false', ne_eq, gt_iff_lt, ge_iff_le, Int.not_lt, Int.not_le, Decidable.not_not] at *; omega) | (simp only [bne_iff_ne, bne_eq_false_iff_eq, beq_iff_eq, beq_eq_false_iff_ne, decide_eq_true_eq, decide_eq_false_iff_not, Bool.not_eq_true', Bool.not_eq_false', ne_eq, gt_iff_lt, ge_iff_le, Int.not_lt, Int.not_le, Decidable.not_not] at *; simp_all; done) | (simp_all; omega) | (simp; omega)
      | false =>
        cases h7 : (decide (Int.ofNat ii > 0)) with
        | true =>
          have g7 := of_decide_eq_true h7
          try simp only [Int.ofNat_eq_natCast, ge_iff_le, gt_iff_lt, Int.not_lt, Int.not_le] at g7
          cases h8 : ((S.C (0 + ii)).5 == 1) with
          | true =>
            have hc : ClOk S.last (S.C (0 + ii)) := (by rw [Nat.zero_add]; exact h.ok ii (by omega))
            obtain ⟨⟨c1, c2, c3, c4⟩, c5, c6, c7, c8⟩ := hc
            have hu := und_iff h (by omega : ii < S.n)
            have hlp := inn_lp S.n ii S.C (by omega) (by omega) (ord_at h (by omega))
            refine round_norm (s0 := jU S) (ii + 1) (jj_5 ..) (ob_cons rfl (ob_cons rfl (ob_cons rfl (ob_cons rfl (ob_cons rfl (ob_cons ?_ (ob_cons rfl (ob_cons rfl (ob_cons rfl (ob_cons rfl (ob_cons rfl (ob_cons (Nat.le_refl _) (ob_cons (.inl ⟨rfl, rfl⟩) (ob_cons (fun _ => rfl) (ob_cons rfl (ob_cons (Nat.le_refl _) (ob_cons (.inl ⟨rfl, rfl⟩) (ob_cons ?_ (ob_cons ?_ (ob_cons ?_ (ob_cons h8 (ob_cons ?_ (ob_cons h3 (ob_cons ?_ (ob_cons ?_ (ob_cons ?_ (ob_cons h7 (ob_cons h3 (ob_cons ?_ (ob_cons h2 (ob_cons ?_ (ob_cons ?_ (ob_cons ?_ (ob_cons h1 ob_nil)))))))))))))))))))))))))))))))))) (by show ii + 1 ≤ S.n; omega) (by show S.n - (ii + 1) < S.n - ii; omega)
            ·
              first | exact wrap_nat64 _ (by simp; omega) (by simp; omega) | exact hlp | (first | exact prev_fr h (by omega) (by omega) (by omega) | exact prev_ix (by omega) (by omega) (by omega) | exact prev_in (by omega) (by omega) (by omega)) | (rw [hu]; simp; done) | (simp only [bne_iff_ne, bne_eq_false_iff_eq, beq_iff_eq, beq_eq_false_iff_ne, decide_eq_true_eq, decide_eq_false_iff_not, Bool.not_eq_true', Bool.not_eq_false', ne_eq, gt_iff_lt, ge_iff_le, Int.not_lt, Int.not_le, Decidable.not_not] at *; omega) | (simp only [bne_iff_ne, bne_eq_false_iff_eq, beq_iff_eq, beq_eq_false_iff_ne, decide_eq_true_eq, decide_eq_false_iff_not, Bool.not_eq_true', Bool.not_eq_false', ne_eq, gt_iff_lt, ge_iff_le, Int.not_lt, Int.not_le, Decidable.not_not] at *; simp_all; done) | (simp_all; omega) | (simp; omega)
            ·
              first | (apply Nat.ble_eq_true_of_le; omega) | (simp [Nat.blt_eq]; omega) | exact hlp | (first | exact prev_fr h (by omega) (by omega) (by omega) | exact prev_ix (by omega) (by omega) (by omega) | exact prev_in (by omega) (by omega) (by omega)) | (rw [hu]; simp; done) | (simp only [bne_iff_ne, bne_eq_false_iff_eq, beq_iff_eq, beq_eq_false_iff_ne, decide_eq_true_eq, decide_eq_false_iff_not, Bool.not_eq_true', Bool.not_eq_false', ne_eq, gt_iff_lt, ge_iff_le, Int.not_lt, Int.not_le, Decidable.not_not] at *; omega) | (simp only [bne_iff_ne, bne_eq_false_iff_eq, beq_iff_eq, beq_eq_false_iff_ne, decide_eq_true_eq, decide_eq_false_iff_not, Bool.not_eq_true', Bool.not_eq_false', ne_eq, gt_iff_lt, ge_iff_le, Int.not_lt, Int.not_le, Decidable.not_not] at *; simp_all; done) | (simp_all; omega) | (simp; omega)
            ·
              first | trivial | exact hlp | (first | exact prev_fr h (by omega) (by omega) (by omega) | exact prev_ix (by omega) (by omega) (by omega) | exact prev_in (by omega) (by omega) (by omega)) | (rw [hu]; simp; done) | (simp only [bne_iff_ne, bne_eq_false_iff_eq, beq_iff_eq, beq_eq_false_iff_ne, decide_eq_true_eq, decide_eq_false_iff_not, Bool.not_eq_true', Bool.not_eq_false', ne_eq, gt_iff_lt, ge_iff_le, Int.not_lt, Int.not_le, Decidable.not_not] at *; omega) | (simp only [bne_iff_ne, bne_eq_false_iff_eq, beq_iff_eq, beq_eq_false_iff_ne, decide_eq_true_eq, decide_eq_false_iff_not, Bool.not_eq_true', Bool.not_eq_false', ne_eq, gt_iff_lt, ge_iff_le, Int.not_lt, Int.not_le, Decidable.not_not] at *; simp_all; done) | (simp_all; omega) | (simp; omega)
            ·
              first | (apply Nat.ble_eq_true_of_le; omega) | (simp [Nat.blt_eq]; omega) | exact hlp | (first | exact prev_fr h (by omega) (by omega) (by omega) | exact prev_ix (by omega) (by omega) (by omega) | exact prev_in (by omega) (by omega) (by omega)) | (rw [hu]; simp; done) | (simp only [bne_iff_ne, bne_eq_false_iff_eq, beq_iff_eq, beq_eq_false_iff_ne, decide_eq_true_eq, decide_eq_false_iff_not, Bool.not_eq_true', Bool.not_eq_false', ne_eq, gt_iff_lt, ge_iff_le, Int.not_lt, Int.not_le, Decidable.not_not] at *; omega) | (simp only [bne_iff_ne, bne_eq_false_iff_eq, beq_iff_eq, beq_eq_false_iff_ne, decide_eq_true_eq, decide_eq_false_iff_not, Bool.not_eq_true', Bool.not_eq_false', ne_eq, gt_iff_lt, ge_iff_le, Int.not_lt, Int.not_le, Decidable.not_not] at *; simp_all; done) | (simp_all; omega) | (simp; omega)
            ·
              first | (apply Nat.ble_eq_true_of_le; omega) | (simp [Nat.blt_eq]; omega) | exact hlp | (first | exact prev_fr h (by omega) (by omega) (by omega) | exact prev_ix (by omega) (by omega) (by omega) | exact prev_in (by omega) (by omega) (by omega)) | (rw [hu]; simp; done) | (simp only [bne_iff_ne, bne_eq_false_iff_eq, beq_iff_eq, beq_eq_false_iff_ne, decide_eq_true_eq, decide_eq_false_iff_not, Bool.not_eq_true', Bool.not_eq_false', ne_eq, gt_iff_lt, ge_iff_le, Int.not_lt, Int.not_le, Decidable.not_not] at *; omega) | (simp only [bne_iff_ne, bne_eq_false_iff_eq, beq_iff_eq, beq_eq_false_iff_ne, decide_eq_true_eq, decide_eq_false_iff_not, Bool.not_eq_true', Bool.not_eq_false', ne_eq, gt_iff_lt, ge_iff_le, Int.not_lt, Int.not_le, Decidable.not_not] at *; simp_all; done) | (simp_all; omega) | (simp; omega)
            ·
              first | (apply Nat.ble_eq_true_of_le; omega) | (simp [Nat.blt_eq]; omega) | exact hlp | (first | exact prev_fr h (by omega) (by omega) (by omega) | exact prev_ix (by omega) (by omega) (by omega) | exact prev_in (by omega) (by omega) (by omega)) | (rw [hu]; simp; done) | (simp only [bne_iff_ne, bne_eq_false_iff_eq, beq_iff_eq, beq_eq_false_iff_ne, decide_eq_true_eq, decide_eq_false_iff_not, Bool.not_eq_true', Bool.not_eq_false', ne_eq, gt_iff_lt, ge_iff_le, Int.not_lt, Int.not_le, Decidable.not_not] at *; omega) | (simp only [bne_iff_ne, bne_eq_false_iff_eq, beq_iff_eq, beq_eq_false_iff_ne, decide_eq_true_eq, decide_eq_false_iff_not, Bool.not_eq_true', Bool.not_eq_false', ne_eq, gt_iff_lt, ge_iff_le, Int.not_lt, Int.not_le, Decidable.not_not] at *; simp_all; done) | (simp_all; omega) | (simp; omega)
            ·
              first | (apply Nat.ble_eq_true_of_le; omega) | (simp [Nat.blt_eq]; omega) | exact hlp | (first | exact prev_fr h (by omega) (by omega) (by omega) | exact prev_ix (by omega) (by omega) (by omega) | exact prev_in (by omega) (by omega) (by omega)) | (rw [hu]; simp; done) | (simp only [bne_iff_ne, bne_eq_false_iff_eq, beq_iff_eq, beq_eq_false_iff_ne, decide_eq_true_eq, decide_eq_false_iff_not, Bool.not_eq_true', Bool.not_eq_false', ne_eq, gt_iff_lt, ge_iff_le, Int.not_lt, Int.not_le, Decidable.not_not] at *; omega) | (simp only [bne_iff_ne, bne_eq_false_iff_eq, beq_iff_eq, beq_eq_false_iff_ne, decide_eq_true_eq, decide_eq_false_iff_not, Bool.not_eq_true', Bool.not_eq_false', ne_eq, gt_iff_lt, ge_iff_le, Int.not_lt, Int.not_le, Decidable.not_not] at *; simp_all; done) | (simp_all; omega) | (simp; omega)
            ·
              first | (apply Nat.ble_eq_true_of_le; omega) | (simp [Nat.blt_eq]; omega) | exact hlp | (first | exact prev_fr h (by omega) (by omega) (by omega) | exact prev_ix (by omega) (by omega) (by omega) | exact prev_in (by omega) (by omega) (by omega)) | (rw [hu]; simp; done) | (simp only [bne_iff_ne, bne_eq_false_iff_eq, beq_iff_eq, beq_eq_false_iff_ne, decide_eq_true_eq, decide_eq_false_iff_not, Bool.not_eq_true', Bool.not_eq_false', ne_eq, gt_iff_lt, ge_iff_le, Int.not_lt, Int.not_le, Decidable.not_not] at *; omega) | (simp only [bne_iff_ne, bne_eq_false_iff_eq, beq_iff_eq, beq_eq_false_iff_ne, decide_eq_true_eq, decide_eq_false_iff_not, Bool.not_eq_true', Bool.not_eq_false', ne_eq, gt_iff_lt, ge_iff_le, Int.not_lt, Int.not_le, Decidable.not_not] at *; simp_all; done) | (simp_all; omega) | (simp; omega)
            ·
              first | (apply Nat.ble_eq_true_of_le; omega) | (simp [Nat.blt_eq]; omega) | exact hlp | (first | exact prev_fr h (by omega) (by omega) (by omega) | exact prev_ix (by omega) (by omega) (by omega) | exact prev_in (by omega) (by omega) (by omega)) | (rw [hu]; simp; done) | (simp only [bne_iff_ne, bne_eq_false_iff_eq, beq_iff_eq, beq_eq_false_iff_ne, decide_eq_true_eq, decide_eq_false_iff_not, Bool.not_eq_true', Bool.not_eq_false', ne_eq, gt_iff_lt, ge_iff_le, Int.not_lt, Int.not_le, Decidable.not_not] at *; omega) | (simp only [bne_iff_ne, bne_eq_false_iff_eq, beq_iff_eq, beq_eq_false_iff_ne, decide_eq_true_eq, decide_eq_false_iff_not, Bool.not_eq_true', Bool.not_eq_false', ne_eq, gt_iff_lt, ge_iff_le, Int.not_lt, Int.not_le, Decidable.not_not] at *; simp_all; done) | (simp_all; omega) | (simp; omega)
            ·
              first | (apply Nat.ble_eq_true_of_le; omega) | (simp [Nat.blt_eq]; omega) | exact hlp | (first | exact prev_fr h (by omega) (by omega) (by omega) | exact prev_ix (by omega) (by omega) (by omega) | exact prev_in (by omega) (by omega) (by omega)) | (rw [hu]; simp; done) | (simp only [bne_iff_ne, bne_eq_false_iff_eq, beq_iff_eq, beq_eq_false_iff_ne, decide_eq_true_eq, decide_eq_false_iff_not, Bool.not_eq_true', Bool.not_eq_false', ne_eq, gt_iff_lt, ge_iff_le, Int.not_lt, Int.not_le, Decidable.not_not] at *; omega) | (simp only [bne_iff_ne, bne_eq_false_iff_eq, beq_iff_eq, beq_eq_false_iff_ne, decide_eq_true_eq, decide_eq_false_iff_not, Bool.not_eq_true', Bool.not_eq_false', ne_eq, gt_iff_lt, ge_iff_le, Int.not_lt, Int.not_le, Decidable.not_not] at *; simp_all; done) | (simp_all; omega) | (simp; omega)
            ·
              first | (apply Nat.ble_eq_true_of_le; omega) | (simp [Nat.blt_eq]; omega) | exact hlp | (first | exact prev_fr h (by omega) (by omega) (by omega) | exact prev_ix (by omega) (by omega) (by omega) | exact prev_in (by omega) (by omega) (by omega)) | (rw [hu]; simp; done) | (simp only [bne_iff_ne, bne_eq_false_iff_eq, beq_iff_eq, beq_eq_false_iff_ne, decide_eq_true_eq, decide_eq_false_iff_not, Bool.not_eq_true', Bool.not_eq_false', ne_eq, gt_iff_lt, ge_iff_le, Int.not_lt, Int.not_le, Decidable.not_not] at *; omega) | (simp only [bne_iff_ne, bne_eq_false_iff_eq, beq_iff_eq, beq_eq_false_iff_ne, decide_eq_true_eq, decide_eq_false_iff_not, Bool.not_eq_true', Bool.not_eq_false', ne_eq, gt_iff_lt, ge_iff_le, Int.not_lt, Int.not_le, Decidable.not_not] at *; simp_all; done) | (simp_all; omega) | (simp; omega)
            ·
              first | (apply Nat.ble_eq_true_of_le; omega) | (simp [Nat.blt_eq]; omega) | exact hlp | (first | exact prev_fr h (by omega) (by omega) (by omega) | exact prev_ix (by omega) (by omega) (by omega) | exact prev_in (by omega) (by omega) (by omega)) | (rw [hu]; simp; done) | (simp only [bne_iff_ne, bne_eq_false_iff_eq, beq_iff_eq, beq_eq_false_iff_ne, decide_eq_true_eq, decide_eq_false_iff_not, Bool.not_eq_true', Bool.not_eq_false', ne_eq, gt_iff_lt, ge_iff_le, Int.not_lt, Int.not_le, Decidable.not_not] at *; omega) | (simp only [bne_iff_ne, bne_eq_false_iff_eq, beq_iff_eq, beq_eq_false_iff_ne, decide_eq_true_eq, decide_eq_false_iff_not, Bool.not_eq_true', Bool.not_eq_false', ne_eq, gt_iff_lt, ge_iff_le, Int.not_lt, Int.not_le, Decidable.not_not] at *; simp_all; done) | (simp_all; omega) | (simp; omega)
          | false =>
            have hc : ClOk S.last (S.C (0 + ii)) := (by rw [Nat.zero_add]; exact h.ok ii (by omega))
            obtain ⟨⟨c1, c2, c3, c4⟩, c5, c6, c7, c8⟩ := hc
            have hu := und_iff h (by omega : ii < S.n)
            have hlp := inn_lp S.n ii S.C (by omega) (by omega) (ord_at h (by omega))
            refine round_norm (s0 := jU S) (ii + 1) (jj_6 ..) (ob_cons rfl (ob_cons rfl (ob_cons rfl (ob_cons rfl (ob_cons rfl (ob_cons ?_ (ob_cons rfl (ob_cons rfl (ob_cons rfl (ob_cons rfl (ob_cons rfl (ob_cons (Nat.le_refl _) (ob_cons (.inl ⟨rfl, rfl⟩) (ob_cons (fun _ => rfl) (ob_cons rfl (ob_cons (Nat.le_refl _) (ob_cons (.inl ⟨rfl, rfl⟩) (ob_cons ?_ (ob_cons ?_ (ob_cons ?_ (ob_cons h8 (ob_cons ?_ (ob_cons h3 (ob_cons ?_ (ob_cons ?_ (ob_cons ?_ (ob_cons h7 (ob_cons h3 (ob_cons ?_ (ob_cons h2 (ob_cons ?_ (ob_cons ?_ (ob_cons ?_ (ob_cons h1 ob_nil)))))))))))))))))))))))))))))))))) (by show ii + 1 ≤ S.n; omega) (by show S.n - (ii + 1) < S.n - ii; omega)
            ·
              first | exact wrap_nat64 _ (by simp; omega) (by simp; omega) | exact hlp | (first | exact prev_fr h (by omega) (by omega) (by omega) | exact prev_ix (by omega) (by omega) (by omega) | exact prev_in (by omega) (by omega) (by omega)) | (rw [hu]; simp; done) | (simp only [bne_iff_ne, bne_eq_false_iff_eq, beq_iff_eq, beq_eq_false_iff_ne, decide_eq_true_eq, decide_eq_false_iff_not, Bool.not_eq_true', Bool.not_eq_false', ne_eq, gt_iff_lt, ge_iff_le, Int.not_lt, Int.not_le, Decidable.not_not] at *; omega) | (simp only [bne_iff_ne, bne_eq_false_iff_eq, beq_iff_eq, beq_eq_false_iff_ne, decide_eq_true_eq, decide_eq_false_iff_not, Bool.not_eq_true', Bool.not_eq_false', ne_eq, gt_iff_lt, ge_iff_le, Int.not_lt, Int.not_le, Decidable.not_not] at *; simp_all; done) | (simp_all; omega) | (simp; omega)
            ·
              first | (apply Nat.ble_eq_true_of_le; omega) | (simp [Nat.blt_eq]; omega) | exact hlp | (first | exact prev_fr h (by omega) (by omega) (by omega) | exact prev_ix (by omega) (by omega) (by omega) | exact prev_in (by omega) (by omega) (by omega)) | (rw [hu]; simp; done) | (simp only [bne_iff_ne, bne_eq_false_iff_eq, beq_iff_eq, beq_eq_false_iff_ne, decide_eq_true_eq, decide_eq_false_iff_not, Bool.not_eq_true', Bool.not_eq_false', ne_eq, gt_iff_lt, ge_iff_le, Int.not_lt, Int.not_le, Decidable.not_not] at *; omega) | (simp only [bne_iff_ne, bne_eq_false_iff_eq, beq_iff_eq, beq_eq_false_iff_ne, decide_eq_true_eq, decide_eq_false_iff_not, Bool.not_eq_true', Bool.not_eq_false', ne_eq, gt_iff_lt, ge_iff_le, Int.not_lt, Int.not_le, Decidable.not_not] at *; simp_all; done) | (simp_all; omega) | (simp; omega)
            ·
              first | trivial | exact hlp | (first | exact prev_fr h (by omega) (by omega) (by omega) | exact prev_ix (by omega) (by omega) (by omega) | exact prev_in (by omega) (by omega) (by omega)) | (rw [hu]; simp; done) | (simp only [bne_iff_ne, bne_eq_false_iff_eq, beq_iff_eq, beq_eq_false_iff_ne, decide_eq_true_eq, decide_eq_false_iff_not, Bool.not_eq_true', Bool.not_eq_false', ne_eq, gt_iff_lt, ge_iff_le, Int.not_lt, Int.not_le, Decidable.not_not] at *; omega) | (simp only [bne_iff_ne, bne_eq_false_iff_eq, beq_iff_eq, beq_eq_false_iff_ne, decide_eq_true_eq, decide_eq_false_iff_not, Bool.not_eq_true', Bool.not_eq_false', ne_eq, gt_iff_lt, ge_iff_le, Int.not_lt, Int.not_le, Decidable.not_not] at *; simp_all; done) | (simp_all; omega) | (simp; omega)
            ·
              first | (apply Nat.ble_eq_true_of_le; omega) | (simp [Nat.blt_eq]; omega) | exact hlp | (first | exact prev_fr h (by omega) (by omega) (by omega) | exact prev_ix (by omega) (by omega) (by omega) | exact prev_in (by omega) (by omega) (by omega)) | (rw [hu]; simp; done) | (simp only [bne_iff_ne, bne_eq_false_iff_eq, beq_iff_eq, beq_eq_false_iff_ne, decide_eq_true_eq, decide_eq_false_iff_not, Bool.not_eq_true', Bool.not_eq_false', ne_eq, gt_iff_lt, ge_iff_le, Int.not_lt, Int.not_le, Decidable.not_not] at *; omega) | (simp only [bne_iff_ne, bne_eq_false_iff_eq, beq_iff_eq, beq_eq_false_iff_ne, decide_eq_true_eq, decide_eq_false_iff_not, Bool.not_eq_true', Bool.not_eq_false', ne_eq, gt_iff_lt, ge_iff_le, Int.not_lt, Int.not_le, Decidable.not_not] at *; simp_all; done) | (simp_all; omega) | (simp; omega)
            ·
              first | (apply Nat.ble_eq_true_of_le; omega) | (simp [Nat.blt_eq]; omega) | exact hlp | (first | exact prev_fr h (by omega) (by omega) (by omega) | exact prev_ix (by omega) (by omega) (by omega) | exact prev_in (by omega) (by omega) (by omega)) | (rw [hu]; simp; done) | (simp only [bne_iff_ne, bne_eq_false_iff_eq, beq_iff_eq, beq_eq_false_iff_ne, decide_eq_true_eq, decide_eq_false_iff_not, Bool.not_eq_true', Bool.not_eq_false', ne_eq, gt_iff_lt, ge_iff_le, Int.not_lt, Int.not_le, Decidable.not_not] at *; omega) | (simp only [bne_iff_ne, bne_eq_false_iff_eq, beq_iff_eq, beq_eq_false_iff_ne, decide_eq_true_eq, decide_eq_false_iff_not, Bool.not_eq_true', Bool.not_eq_false', ne_eq, gt_iff_lt, ge_iff_le, Int.not_lt, Int.not_le, Decidable.not_not] at *; simp_all; done) | (simp_all; omega) | (simp; omega)
            ·
              first | (apply Nat.ble_eq_true_of_le; omega) | (simp [Nat.blt_eq]; omega) | exact hlp | (first | exact prev_fr h (by omega) (by omega) (by omega) | exact prev_ix (by omega) (by omega) (by omega) | exact prev_in (by omega) (by omega) (by omega)) | (rw [hu]; simp; done) | (simp only [bne_iff_ne, bne_eq_false_iff_eq, beq_iff_eq, beq_eq_false_iff_ne, decide_eq_true_eq, decide_eq_false_iff_not, Bool.not_eq_true', Bool.not_eq_false', ne_eq, gt_iff_lt, ge_iff_le, Int.not_lt, Int.not_le, Decidable.not_not] at *; omega) | (simp only [bne_iff_ne, bne_eq_false_iff_eq, beq_iff_eq, beq_eq_false_iff_ne, decide_eq_true_eq, decide_eq_false_iff_not, Bool.not_eq_true', Bool.not_eq_false', ne_eq, gt_iff_lt, ge_iff_le, Int.not_lt, Int.not_le, Decidable.not_not] at *; simp_all; done) | (simp_all; omega) | (simp; omega)
            ·
              first | (apply Nat.ble_eq_true_of_le; omega) | (simp [Nat.blt_eq]; omega) | exact hlp | (first | exact prev_fr h (by omega) (by omega) (by omega) | exact prev_ix (by omega) (by omega) (by omega) | exact prev_in (by omega) (by omega) (by omega)) | (rw [hu]; simp; done) | (simp only [bne_iff_ne, bne_eq_false_iff_eq, beq_iff_eq, beq_eq_false_iff_ne, decide_eq_true_eq, decide_eq_false_iff_not, Bool.not_eq_true', Bool.not_eq_false', ne_eq, gt_iff_lt, ge_iff_le, Int.not_lt, Int.not_le, Decidable.not_not] at *; omega) | (simp only [bne_iff_ne, bne_eq_false_iff_eq, beq_iff_eq, beq_eq_false_iff_ne, decide_eq_true_eq, decide_eq_false_iff_not, Bool.not_eq_true', Bool.not_eq_false', ne_eq, gt_iff_lt, ge_iff_le, Int.not_lt, Int.not_le, Decidable.not_not] at *; simp_all; done) | (simp_all; omega) | (simp; omega)
            ·
              first | (apply Nat.ble_eq_true_of_le; omega) | (simp [Nat.blt_eq]; omega) | exact hlp | (first | exact prev_fr h (by omega) (by omega) (by omega) | exact prev_ix (by omega) (by omega) (by omega) | exact prev_in (by omega) (by omega) (by omega)) | (rw [hu]; simp; done) | (simp only [bne_iff_ne, bne_eq_false_iff_eq, beq_iff_eq, beq_eq_false_iff_ne, decide_eq_true_eq, decide_eq_false_iff_not, Bool.not_eq_true', Bool.not_eq_false', ne_eq, gt_iff_lt, ge_iff_le, Int.not_lt, Int.not_le, Decidable.not_not] at *; omega) | (simp only [bne_iff_ne, bne_eq_false_iff_eq, beq_iff_eq, beq_eq_false_iff_ne, decide_eq_true_eq, decide_eq_false_iff_not, Bool.not_eq_true', Bool.not_eq_false', ne_eq, gt_iff_lt, ge_iff_le, Int.not_lt, Int.not_le, Decidable.not_not] at *; simp_all; done) | (simp_all; omega) | (simp; omega)
            ·
              first | (apply Nat.ble_eq_true_of_le; omega) | (simp [Nat.blt_eq]; omega) | exact hlp | (first | exact prev_fr h (by omega) (by omega) (by omega) | exact prev_ix (by omega) (by omega) (by omega) | exact prev_in (by omega) (by omega) (by omega)) | (rw [hu]; simp; done) | (simp only [bne_iff_ne, bne_eq_false_iff_eq, beq_iff_eq, beq_eq_false_iff_ne, decide_eq_true_eq, decide_eq_false_iff_not, Bool.not_eq_true', Bool.not_eq_false', ne_eq, gt_iff_lt, ge_iff_le, Int.not_lt, Int.not_le, Decidable.not_not] at *; omega) | (simp only [bne_iff_ne, bne_eq_false_iff_eq, beq_iff_eq, beq_eq_false_iff_ne, decide_eq_true_eq, decide_eq_false_iff_not, Bool.not_eq_true', Bool.not_eq_false', ne_eq, gt_iff_lt, ge_iff_le, Int.not_lt, Int.not_le, Decidable.not_not] at *; simp_all; done) | (simp_all; omega) | (simp; omega)
            ·
              first | (apply Nat.ble_eq_true_of_le; omega) | (simp [Nat.blt_eq]; omega) | exact hlp | (first | exact prev_fr h (by omega) (by omega) (by omega) | exact prev_ix (by omega) (by omega) (by omega) | exact prev_in (by omega) (by omega) (by omega)) | (rw [hu]; simp; done) | (simp only [bne_iff_ne, bne_eq_false_iff_eq, beq_iff_eq, beq_eq_false_iff_ne, decide_eq_true_eq, decide_eq_false_iff_not, Bool.not_eq_true', Bool.not_eq_false', ne_eq, gt_iff_lt, ge_iff_le, Int.not_lt, Int.not_le, Decidable.not_not] at *; omega) | (simp only [bne_iff_ne, bne_eq_false_iff_eq, beq_iff_eq, beq_eq_false_iff_ne, decide_eq_true_eq, decide_eq_false_iff_not, Bool.not_eq_true', Bool.not_eq_false', ne_eq, gt_iff_lt, ge_iff_le, Int.not_lt, Int.not_le, Decidable.not_not] at *; simp_all; done) | (simp_all; omega) | (simp; omega)
            ·
              first | (apply Nat.ble_eq_true_of_le; omega) | (simp [Nat.blt_eq]; omega) | exact hlp | (first | exact prev_fr h (by omega) (by omega) (by omega) | exact prev_ix (by omega) (by omega) (by omega) | exact prev_in (by omega) (by omega) (by omega)) | (rw [hu]; simp; done) | (simp only [bne_iff_ne, bne_eq_false_iff_eq, beq_iff_eq, beq_eq_false_iff_ne, decide_eq_true_eq, decide_eq_false_iff_not, Bool.not_eq_true', Bool.not_eq_false', ne_eq, gt_iff_lt, ge_iff_le, Int.not_lt, Int.not_le, Decidable.not_not] at *; omega) | (simp only [bne_iff_ne, bne_eq_false_iff_eq, beq_iff_eq, beq_eq_false_iff_ne, decide_eq_true_eq, decide_eq_false_iff_not, Bool.not_eq_true', Bool.not_eq_false', ne_eq, gt_iff_lt, ge_iff_le, Int.not_lt, Int.not_le, Decidable.not_not] at *; simp_all; done) | (simp_all; omega) | (simp; omega)
            ·
              first | (apply Nat.ble_eq_true_of_le; omega) | (simp [Nat.blt_eq]; omega) | exact hlp | (first | exact prev_fr h (by omega) (by omega) (by omega) | exact prev_ix (by omega) (by omega) (by omega) | exact prev_in (by omega) (by omega) (by omega)) | (rw [hu]; simp; done) | (simp only [bne_iff_ne, bne_eq_false_iff_eq, beq_iff_eq, beq_eq_false_iff_ne, decide_eq_true_eq, decide_eq_false_iff_not, Bool.not_eq_true', Bool.not_eq_false', ne_eq, gt_iff_lt, ge_iff_le, Int.not_lt, Int.not_le, Decidable.not_not] at *; omega) | (simp only [bne_iff_ne, bne_eq_false_iff_eq, beq_iff_eq, beq_eq_false_iff_ne, decide_eq_true_eq, decide_eq_false_iff_not, Bool.not_eq_true', Bool.not_eq_false', ne_eq, gt_iff_lt, ge_iff_le, Int.not_lt, Int.not_le, Decidable.not_not] at *; simp_all; done) | (simp_all; omega) | (simp; omega)
        | false =>
          have g7 := of_decide_eq_false h7
          try simp only [Int.ofNat_eq_natCast, ge_iff_le, gt_iff_lt, Int.not_lt, Int.not_le] at g7
          cases h9 : ((S.C (0 + ii)).5 == 1) with
          | true =>
            have hc : ClOk S.last (S.C (0 + ii)) := (by rw [Nat.zero_add]; exact h.ok ii (by omega))
            obtain ⟨⟨c1, c2, c3, c4⟩, c5, c6, c7, c8⟩ := hc
            have hu := und_iff h (by omega : ii < S.n)
            have hlp := inn_lp S.n ii S.C (by omega) (by omega) (ord_at h (by omega))
            refine round_norm (s0 := jU S) (ii + 1) (jj_7 ..) (ob_cons rfl (ob_cons rfl (ob_cons rfl (ob_cons rfl (ob_cons rfl (ob_cons ?_ (ob_cons rfl (ob_cons rfl (ob_cons rfl (ob_cons rfl (ob_cons rfl (ob_cons (Nat.le_refl _) (ob_cons (.inl ⟨rfl, rfl⟩) (ob_cons (fun _ => rfl) (ob_cons rfl (ob_cons (Nat.le_refl _) (ob_cons (.inl ⟨rfl, rfl⟩) (ob_cons ?_ (ob_cons ?_ (ob_cons ?_ (ob_cons h9 (ob_cons ?_ (ob_cons h3 (ob_cons h7 (ob_cons h3 (ob_cons ?_ (ob_cons h2 (ob_cons ?_ (ob_cons ?_ (ob_cons ?_ (ob_cons h1 ob_nil))))))))))))))))))))))))))))))) (by show ii + 1 ≤ S.n; omega) (by show S.n - (ii + 1) < S.n - ii; omega)
            ·
              first | exact wrap_nat64 _ (by simp; omega) (by simp; omega) | exact hlp | (first | exact prev_fr h (by omega) (by omega) (by omega) | exact prev_ix (by omega) (by omega) (by omega) | exact prev_in (by omega) (by omega) (by omega)) | (rw [hu]; simp; done) | (simp only [bne_iff_ne, bne_eq_false_iff_eq, beq_iff_eq, beq_eq_false_iff_ne, decide_eq_true_eq, decide_eq_false_iff_not, Bool.not_eq_true', Bool.not_eq_false', ne_eq, gt_iff_lt, ge_iff_le, Int.not_lt, Int.not_le, Decidable.not_not] at *; omega) | (simp only [bne_iff_ne, bne_eq_false_iff_eq, beq_iff_eq, beq_eq_false_iff_ne, decide_eq_true_eq, decide_eq_false_iff_not, Bool.not_eq_true', Bool.not_eq_false', ne_eq, gt_iff_lt, ge_iff_le, Int.not_lt, Int.not_le, Decidable.not_not] at *; simp_all; done) | (simp_all; omega) | (simp; omega)
            ·
              first | (apply Nat.ble_eq_true_of_le; omega) | (simp [Nat.blt_eq]; omega) | exact hlp | (first | exact prev_fr h (by omega) (by omega) (by omega) | exact prev_ix (by omega) (by omega) (by omega) | exact prev_in (by omega) (by omega) (by omega)) | (rw [hu]; simp; done) | (simp only [bne_iff_ne, bne_eq_false_iff_eq, beq_iff_eq, beq_eq_false_iff_ne, decide_eq_true_eq, decide_eq_false_iff_not, Bool.not_eq_true', Bool.not_eq_false', ne_eq, gt_iff_lt, ge_iff_le, Int.not_lt, Int.not_le, Decidable.not_not] at *; omega) | (simp only [bne_iff_ne, bne_eq_false_iff_eq, beq_iff_eq, beq_eq_false_iff_ne, decide_eq_true_eq, decide_eq_false_iff_not, Bool.not_eq_true', Bool.not_eq_false', ne_eq, gt_iff_lt, ge_iff_le, Int.not_lt, Int.not_le, Decidable.not_not] at *; simp_all; done) | (simp_all; omega) | (simp; omega)
            ·
              first | trivial | exact hlp | (first | exact prev_fr h (by omega) (by omega) (by omega) | exact prev_ix (by omega) (by omega) (by omega) | exact prev_in (by omega) (by omega) (by omega)) | (rw [hu]; simp; done) | (simp only [bne_iff_ne, bne_eq_false_iff_eq, beq_iff_eq, beq_eq_false_iff_ne, decide_eq_true_eq, decide_eq_false_iff_not, Bool.not_eq_true', Bool.not_eq_false', ne_eq, gt_iff_lt, ge_iff_le, Int.not_lt, Int.not_le, Decidable.not_not] at *; omega) | (simp only [bne_iff_ne, bne_eq_false_iff_eq, beq_iff_eq, beq_eq_false_iff_ne, decide_eq_true_eq, decide_eq_false_iff_not, Bool.not_eq_true', Bool.not_eq_false', ne_eq, gt_iff_lt, ge_iff_le, Int.not_lt, Int.not_le, Decidable.not_not] at *; simp_all; done) | (simp_all; omega) | (simp; omega)
            ·
              first | (apply Nat.ble_eq_true_of_le; omega) | (simp [Nat.blt_eq]; omega) | exact hlp | (first | exact prev_fr h (by omega) (by omega) (by omega) | exact prev_ix (by omega) (by omega) (by omega) | exact prev_in (by omega) (by omega) (by omega)) | (rw [hu]; simp; done) | (simp only [bne_iff_ne, bne_eq_false_iff_eq, beq_iff_eq, beq_eq_false_iff_ne, decide_eq_true_eq, decide_eq_false_iff_not, Bool.not_eq_true', Bool.not_eq_false', ne_eq, gt_iff_lt, ge_iff_le, Int.not_lt, Int.not_le, Decidable.not_not] at *; omega) | (simp only [bne_iff_ne, bne_eq_false_iff_eq, beq_iff_eq, beq_eq_false_iff_ne, decide_eq_true_eq, decide_eq_false_iff_not, Bool.not_eq_true', Bool.not_eq_false', ne_eq, gt_iff_lt, ge_iff_le, Int.not_lt, Int.not_le, Decidable.not_not] at *; simp_all; done) | (simp_all; omega) | (simp; omega)
            ·
              first | (apply Nat.ble_eq_true_of_le; omega) | (simp [Nat.blt_eq]; omega) | exact hlp | (first | exact prev_fr h (by omega) (by omega) (by omega) | exact prev_ix (by omega) (by omega) (by omega) | exact prev_in (by omega) (by omega) (by omega)) | (rw [hu]; simp; done) | (simp only [bne_iff_ne, bne_eq_false_iff_eq, beq_iff_eq, beq_eq_false_iff_ne, decide_eq_true_eq, decide_eq_false_iff_not, Bool.not_eq_true', Bool.not_eq_false', ne_eq, gt_iff_lt, ge_iff_le, Int.not_lt, Int.not_le, Decidable.not_not] at *; omega) | (simp only [bne_iff_ne, bne_eq_false_iff_eq, beq_iff_eq, beq_eq_false_iff_ne, decide_eq_true_eq, decide_eq_false_iff_not, Bool.not_eq_true', Bool.not_eq_false', ne_eq, gt_iff_lt, ge_iff_le, Int.not_lt, Int.not_le, Decidable.not_not] at *; simp_all; done) | (simp_all; omega) | (simp; omega)
            ·
              first | (apply Nat.ble_eq_true_of_le; omega) | (simp [Nat.blt_eq]; omega) | exact hlp | (first | exact prev_fr h (by omega) (by omega) (by omega) | exact prev_ix (by omega) (by omega) (by omega) | exact prev_in (by omega) (by omega) (by omega)) | (rw [hu]; simp; done) | (simp only [bne_iff_ne, bne_eq_false_iff_eq, beq_iff_eq, beq_eq_false_iff_ne, decide_eq_true_eq, decide_eq_false_iff_not, Bool.not_eq_true', Bool.not_eq_false', ne_eq, gt_iff_lt, ge_iff_le, Int.not_lt, Int.not_le, Decidable.not_not] at *; omega) | (simp only [bne_iff_ne, bne_eq_false_iff_eq, beq_iff_eq, beq_eq_false_iff_ne, decide_eq_true_eq, decide_eq_false_iff_not, Bool.not_eq_true', Bool.not_eq_false', ne_eq, gt_iff_lt, ge_iff_le, Int.not_lt, Int.not_le, Decidable.not_not] at *; simp_all; done) | (simp_all; omega) | (simp; omega)
            ·
              first | (apply Nat.ble_eq_true_of_le; omega) | (simp [Nat.blt_eq]; omega) | exact hlp | (first | exact prev_fr h (by omega) (by omega) (by omega) | exact prev_ix (by omega) (by omega) (by omega) | exact prev_in (by omega) (by omega) (by omega)) | (rw [hu]; simp; done) | (simp only [bne_iff_ne, bne_eq_false_iff_eq, beq_iff_eq, beq_eq_false_iff_ne, decide_eq_true_eq, decide_eq_false_iff_not, Bool.not_eq_true', Bool.not_eq_false', ne_eq, gt_iff_lt, ge_iff_le, Int.not_lt, Int.not_le, Decidable.not_not] at *; omega) | (simp only [bne_iff_ne, bne_eq_false_iff_eq, beq_iff_eq, beq_eq_false_iff_ne, decide_eq_true_eq, decide_eq_false_iff_not, Bool.not_eq_true', Bool.not_eq_false', ne_eq, gt_iff_lt, ge_iff_le, Int.not_lt, Int.not_le, Decidable.not_not] at *; simp_all; done) | (simp_all; omega) | (simp; omega)
            ·
              first | (apply Nat.ble_eq_true_of_le; omega) | (simp [Nat.blt_eq]; omega) | exact hlp | (first | exact prev_fr h (by omega) (by omega) (by omega) | exact prev_ix (by omega) (by omega) (by omega) | exact prev_in (by omega) (by omega) (by omega)) | (rw [hu]; simp; done) | (simp only [bne_iff_ne, bne_eq_false_iff_eq, beq_iff_eq, beq_eq_false_iff_ne, decide_eq_true_eq, decide_eq_false_iff_not, Bool.not_eq_true', Bool.not_eq_false', ne_eq, gt_iff_lt, ge_iff_le, Int.not_lt, Int.not_le, Decidable.not_not] at *; omega) | (simp only [bne_iff_ne, bne_eq_false_iff_eq, beq_iff_eq, beq_eq_false_iff_ne, decide_eq_true_eq, decide_eq_false_iff_not, Bool.not_eq_true', Bool.not_eq_false', ne_eq, gt_iff_lt, ge_iff_le, Int.not_lt, Int.not_le, Decidable.not_not] at *; simp_all; done) | (simp_all; omega) | (simp; omega)
            ·
              first | (apply Nat.ble_eq_true_of_le; omega) | (simp [Nat.blt_eq]; omega) | exact hlp | (first | exact prev_fr h (by omega) (by omega) (by omega) | exact prev_ix (by omega) (by omega) (by omega) | exact prev_in (by omega) (by omega) (by omega)) | (rw [hu]; simp; done) | (simp only [bne_iff_ne, bne_eq_false_iff_eq, beq_iff_eq, beq_eq_false_iff_ne, decide_eq_true_eq, decide_eq_false_iff_not, Bool.not_eq_true', Bool.not_eq_false', ne_eq, gt_iff_lt, ge_iff_le, Int.not_lt, Int.not_le, Decidable.not_not] at *; omega) | (simp only [bne_iff_ne, bne_eq_false_iff_eq, beq_iff_eq, beq_eq_false_iff_ne, decide_eq_true_eq, decide_eq_false_iff_not, Bool.not_eq_true', Bool.not_eq_false', ne_eq, gt_iff_lt, ge_iff_le, Int.not_lt, Int.not_le, Decidable.not_not] at *; simp_all; done) | (simp_all; omega) | (simp; omega)
          | false =>
            have hc : ClOk S.last (S.C (0 + ii)) := (by rw [Nat.zero_add]; exact h.ok ii (by omega))
            obtain ⟨⟨c1, c2, c3, c4⟩, c5, c6, c7, c8⟩ := hc
            have hu := und_iff h (by omega : ii < S.n)
            have hlp := inn_lp S.n ii S.C (by omega) (by omega) (ord_at h (by omega))
            refine round_norm (s0 := jU S) (ii + 1) (jj_8 ..) (ob_cons rfl (ob_cons rfl (ob_cons rfl (ob_cons rfl (ob_cons rfl (ob_cons ?_ (ob_cons rfl (ob_cons rfl (ob_cons rfl (ob_cons rfl (ob_cons rfl (ob_cons (Nat.le_refl _) (ob_cons (.inl ⟨rfl, rfl⟩) (ob_cons (fun _ => rfl) (ob_cons rfl (ob_cons (Nat.le_refl _) (ob_cons (.inl ⟨rfl, rfl⟩) (ob_cons ?_ (ob_cons ?_ (ob_cons ?_ (ob_cons h9 (ob_cons ?_ (ob_cons h3 (ob_cons h7 (ob_cons h3 (ob_cons ?_ (ob_cons h2 (ob_cons ?_ (ob_cons ?_ (ob_cons ?_ (ob_cons h1 ob_nil))))))))))))))))))))))))))))))) (by show ii + 1 ≤ S.n; omega) (by show S.n - (ii + 1) < S.n - ii; omega)
            ·
              first | exact wrap_nat64 _ (by simp; omega) (by simp; omega) | exact hlp | (first | exact prev_fr h (by omega) (by omega) (by omega) | exact prev_ix (by omega) (by omega) (by omega) | exact prev_in (by omega) (by omega) (by omega)) | (rw [hu]; simp; done) | (simp only [bne_iff_ne, bne_eq_false_iff_eq, beq_iff_eq, beq_eq_false_iff_ne, decide_eq_true_eq, decide_eq_false_iff_not, Bool.not_eq_true', Bool.not_eq_false', ne_eq, gt_iff_lt, ge_iff_le, Int.not_lt, Int.not_le, Decidable.not_not] at *; omega) | (simp only [bne_iff_ne, bne_eq_false_iff_eq, beq_iff_eq, beq_eq_false_iff_ne, decide_eq_true_eq, decide_eq_false_iff_not, Bool.not_eq_true', Bool.not_eq_false', ne_eq, gt_iff_lt, ge_iff_le, Int.not_lt, Int.not_le, Decidable.not_not] at *; simp_all; done) | (simp_all; omega) | (simp; omega)
            ·
              first | (apply Nat.ble_eq_true_of_le; omega) | (simp [Nat.blt_eq]; omega) | exact hlp | (first | exact prev_fr h (by omega) (by omega) (by omega) | exact prev_ix (by omega) (by omega) (by omega) | exact prev_in (by omega) (by omega) (by omega)) | (rw [hu]; simp; done) | (simp only [bne_iff_ne, bne_eq_false_iff_eq, beq_iff_eq, beq_eq_false_iff_ne, decide_eq_true_eq, decide_eq_false_iff_not, Bool.not_eq_true', Bool.not_eq_false', ne_eq, gt_iff_lt, ge_iff_le, Int.not_lt, Int.not_le, Decidable.not_not] at *; omega) | (simp only [bne_iff_ne, bne_eq_false_iff_eq, beq_iff_eq, beq_eq_false_iff_ne, decide_eq_true_eq, decide_eq_false_iff_not, Bool.not_eq_true', Bool.not_eq_false', ne_eq, gt_iff_lt, ge_iff_le, Int.not_lt, Int.not_le, Decidable.not_not] at *; simp_all; done) | (simp_all; omega) | (simp; omega)
            ·
              first | trivial | exact hlp | (first | exact prev_fr h (by omega) (by omega) (by omega) | exact prev_ix (by omega) (by omega) (by omega) | exact prev_in (by omega) (by omega) (by omega)) | (rw [hu]; simp; done) | (simp only [bne_iff_ne, bne_eq_false_iff_eq, beq_iff_eq, beq_eq_false_iff_ne, decide_eq_true_eq, decide_eq_false_iff_not, Bool.not_eq_true', Bool.not_eq_false', ne_eq, gt_iff_lt, ge_iff_le, Int.not_lt, Int.not_le, Decidable.not_not] at *; omega) | (simp only [bne_iff_ne, bne_eq_false_iff_eq, beq_iff_eq, beq_eq_false_iff_ne, decide_eq_true_eq, decide_eq_false_iff_not, Bool.not_eq_true', Bool.not_eq_false', ne_eq, gt_iff_lt, ge_iff_le, Int.not_lt, Int.not_le, Decidable.not_not] at *; simp_all; done) | (simp_all; omega) | (simp; omega)
            ·
              first | (apply Nat.ble_eq_true_of_le; omega) | (simp [Nat.blt_eq]; omega) | exact hlp | (first | exact prev_fr h (by omega) (by omega) (by omega) | exact prev_ix (by omega) (by omega) (by omega) | exact prev_in (by omega) (by omega) (by omega)) | (rw [hu]; simp; done) | (simp only [bne_iff_ne, bne_eq_false_iff_eq, beq_iff_eq, beq_eq_false_iff_ne, decide_eq_true_eq, decide_eq_false_iff_not, Bool.not_eq_true', Bool.not_eq_false', ne_eq, gt_iff_lt, ge_iff_le, Int.not_lt, Int.not_le, Decidable.not_not] at *; omega) | (simp only [bne_iff_ne, bne_eq_false_iff_eq, beq_iff_eq, beq_eq_false_iff_ne, decide_eq_true_eq, decide_eq_false_iff_not, Bool.not_eq_true', Bool.not_eq_false', ne_eq, gt_iff_lt, ge_iff_le, Int.not_lt, Int.not_le, Decidable.not_not] at *; simp_all; done) | (simp_all; omega) | (simp; omega)
            ·
              first | (apply Nat.ble_eq_true_of_le; omega) | (simp [Nat.blt_eq]; omega) | exact hlp | (first | exact prev_fr h (by omega) (by omega) (by omega) | exact prev_ix (by omega) (by omega) (by omega) | exact prev_in (by omega) (by omega) (by omega)) | (rw [hu]; simp; done) | (simp only [bne_iff_ne, bne_eq_false_iff_eq, beq_iff_eq, beq_eq_false_iff_ne, decide_eq_true_eq, decide_eq_false_iff_not, Bool.not_eq_true', Bool.not_eq_false', ne_eq, gt_iff_lt, ge_iff_le, Int.not_lt, Int.not_le, Decidable.not_not] at *; omega) | (simp only [bne_iff_ne, bne_eq_false_iff_eq, beq_iff_eq, beq_eq_false_iff_ne, decide_eq_true_eq, decide_eq_false_iff_not, Bool.not_eq_true', Bool.not_eq_false', ne_eq, gt_iff_lt, ge_iff_le, Int.not_lt, Int.not_le, Decidable.not_not] at *; simp_all; done) | (simp_all; omega) | (simp; omega)
            ·
              first | (apply Nat.ble_eq_true_of_le; omega) | (simp [Nat.blt_eq]; omega) | exact hlp | (first | exact prev_fr h (by omega) (by omega) (by omega) | exact prev_ix (by omega) (by omega) (by omega) | exact prev_in (by omega) (by omega) (by omega)) | (rw [hu]; simp; done) | (simp only [bne_iff_ne, bne_eq_false_iff_eq, beq_iff_eq, beq_eq_false_iff_ne, decide_eq_true_eq, decide_eq_false_iff_not, Bool.not_eq_true', Bool.not_eq_false', ne_eq, gt_iff_lt, ge_iff_le, Int.not_lt, Int.not_le, Decidable.not_not] at *; omega) | (simp only [bne_iff_ne, bne_eq_false_iff_eq, beq_iff_eq, beq_eq_false_iff_ne, decide_eq_true_eq, decide_eq_false_iff_not, Bool.not_eq_true', Bool.not_eq_false', ne_eq, gt_iff_lt, ge_iff_le, Int.not_lt, Int.not_le, Decidable.not_not] at *; simp_all; done) | (simp_all; omega) | (simp; omega)
            ·
              first | (apply Nat.ble_eq_true_of_le; omega) | (simp [Nat.blt_eq]; omega) | exact hlp | (first | exact prev_fr h (by omega) (by omega) (by omega) | exact prev_ix (by omega) (by omega) (by omega) | exact prev_in (by omega) (by omega) (by omega)) | (rw [hu]; simp; done) | (simp only [bne_iff_ne, bne_eq_false_iff_eq, beq_iff_eq, beq_eq_false_iff_ne, decide_eq_true_eq, decide_eq_false_iff_not, Bool.not_eq_true', Bool.not_eq_false', ne_eq, gt_iff_lt, ge_iff_le, Int.not_lt, Int.not_le, Decidable.not_not] at *; omega) | (simp only [bne_iff_ne, bne_eq_false_iff_eq, beq_iff_eq, beq_eq_false_iff_ne, decide_eq_true_eq, decide_eq_false_iff_not, Bool.not_eq_true', Bool.not_eq_false', ne_eq, gt_iff_lt, ge_iff_le, Int.not_lt, Int.not_le, Decidable.not_not] at *; simp_all; done) | (simp_all; omega) | (simp; omega)
            ·
              first | (apply Nat.ble_eq_true_of_le; omega) | (simp [Nat.blt_eq]; omega) | exact hlp | (first | exact prev_fr h (by omega) (by omega) (by omega) | exact prev_ix (by omega) (by omega) (by omega) | exact prev_in (by omega) (by omega) (by omega)) | (rw [hu]; simp; done) | (simp only [bne_iff_ne, bne_eq_false_iff_eq, beq_iff_eq, beq_eq_false_iff_ne, decide_eq_true_eq, decide_eq_false_iff_not, Bool.not_eq_true', Bool.not_eq_false', ne_eq, gt_iff_lt, ge_iff_le, Int.not_lt, Int.not_le, Decidable.not_not] at *; omega) | (simp only [bne_iff_ne, bne_eq_false_iff_eq, beq_iff_eq, beq_eq_false_iff_ne, decide_eq_true_eq, decide_eq_false_iff_not, Bool.not_eq_true', Bool.not_eq_false', ne_eq, gt_iff_lt, ge_iff_le, Int.not_lt, Int.not_le, Decidable.not_not] at *; simp_all; done) | (simp_all; omega) | (simp; omega)
            ·
              first | (apply Nat.ble_eq_true_of_le; omega) | (simp [Nat.blt_eq]; omega) | exact hlp | (first | exact prev_fr h (by omega) (by omega) (by omega) | exact prev_ix (by omega) (by omega) (by omega) | exact prev_in (by omega) (by omega) (by omega)) | (rw [hu]; simp; done) | (simp only [bne_iff_ne, bne_eq_false_iff_eq, beq_iff_eq, beq_eq_false_iff_ne, decide_eq_true_eq, decide_eq_false_iff_not, Bool.not_eq_true', Bool.not_eq_false', ne_eq, gt_iff_lt, ge_iff_le, Int.not_lt, Int.not_le, Decidable.not_not] at *; omega) | (simp only [bne_iff_ne, bne_eq_false_iff_eq, beq_iff_eq, beq_eq_false_iff_ne, decide_eq_true_eq, decide_eq_false_iff_not, Bool.not_eq_true', Bool.not_eq_false', ne_eq, gt_iff_lt, ge_iff_le, Int.not_lt, Int.not_le, Decidable.not_not] at *; simp_all; done) | (simp_all; omega) | (simp; omega)
    | false =>
      cases h10 : ((S.C (0 + ii)).9 != -1) with
      | true =>
        cases h11 : (decide (Int.ofNat ii > 0)) with
        | true =>
          have g11 := of_decide_eq_true h11
          try simp only [Int.ofNat_eq_natCast, ge_iff_le, gt_iff_lt, Int.not_lt, Int.not_le] at g11
          cases h12 : ((S.C (0 + ii)).5 == 1) with
          | true =>
            have hc : ClOk S.last (S.C (0 + ii)) := (by rw [Nat.zero_add]; exact h.ok ii (by omega))
            obtain ⟨⟨c1, c2, c3, c4⟩, c5, c6, c7, c8⟩ := hc
            have hu := und_iff h (by omega : ii < S.n)
            have hlp := inn_lp S.n ii S.C (by omega) (by omega) (ord_at h (by omega))
            refine round_norm (s0 := jU S) (ii + 1) (jj_9 ..) (ob_cons rfl (ob_cons rfl (ob_cons rfl (ob_cons rfl (ob_cons rfl (ob_cons ?_ (ob_cons rfl (ob_cons rfl (ob_cons rfl (ob_cons rfl (ob_cons rfl (ob_cons (Nat.le_refl _) (ob_cons (.inl ⟨rfl, rfl⟩) (ob_cons (fun _ => rfl) (ob_cons rfl (ob_cons (Nat.le_refl _) (ob_cons (.inl ⟨rfl, rfl⟩) (ob_cons ?_ (ob_cons ?_ (ob_cons ?_ (ob_cons h12 (ob_cons ?_ (ob_cons h10 (ob_cons ?_ (ob_cons ?_ (ob_cons ?_ (ob_cons h11 (ob_cons ?_ (ob_cons h10 (ob_cons h2 (ob_cons ?_ (ob_cons ?_ (ob_cons ?_ (ob_cons h1 ob_nil)))))))))))))))))))))))))))))))))) (by show ii + 1 ≤ S.n; omega) (by show S.n - (ii + 1) < S.n - ii; omega)
            ·
              first | exact wrap_nat64 _ (by simp; omega) (by simp; omega) | exact hlp | (first | exact prev_fr h (by omega) (by omega) (by omega) | exact prev_ix (by omega) (by omega) (by omega) | exact prev_in (by omega) (by omega) (by omega)) | (rw [hu]; simp; done) | (simp only [bne_iff_ne, bne_eq_false_iff_eq, beq_iff_eq, beq_eq_false_iff_ne, decide_eq_true_eq, decide_eq_false_iff_not, Bool.not_eq_true', Bool.not_eq_false', ne_eq, gt_iff_lt, ge_iff_le, Int.not_lt, Int.not_le, Decidable.not_not] at *; omega) | (simp only [bne_iff_ne, bne_eq_false_iff_eq, beq_iff_eq, beq_eq_false_iff_ne, decide_eq_true_eq, decide_eq_false_iff_not, Bool.not_eq_true', Bool.not_eq_false', ne_eq, gt_iff_lt, ge_iff_le, Int.not_lt, Int.not_le, Decidable.not_not] at *; simp_all; done) | (simp_all; omega) | (simp; omega)
            ·
              first | (apply Nat.ble_eq_true_of_le; omega) | (simp [Nat.blt_eq]; omega) | exact hlp | (first | exact prev_fr h (by omega) (by omega) (by omega) | exact prev_ix (by omega) (by omega) (by omega) | exact prev_in (by omega) (by omega) (by omega)) | (rw [hu]; simp; done) | (simp only [bne_iff_ne, bne_eq_false_iff_eq, beq_iff_eq, beq_eq_false_iff_ne, decide_eq_true_eq, decide_eq_false_iff_not, Bool.not_eq_true', Bool.not_eq_false', ne_eq, gt_iff_lt, ge_iff_le, Int.not_lt, Int.not_le, Decidable.not_not] at *; omega) | (simp only [bne_iff_ne, bne_eq_false_iff_eq, beq_iff_eq, beq_eq_false_iff_ne, decide_eq_true_eq, decide_eq_false_iff_not, Bool.not_eq_true', Bool.not_eq_false', ne_eq, gt_iff_lt, ge_iff_le, Int.not_lt, Int.not_le, Decidable.not_not] at *; simp_all; done) | (simp_all; omega) | (simp; omega)
            ·
              first | trivial | exact hlp | (first | exact prev_fr h (by omega) (by omega) (by omega) | exact prev_ix (by omega) (by omega) (by omega) | exact prev_in (by omega) (by omega) (by omega)) | (rw [hu]; simp; done) | (simp only [bne_iff_ne, bne_eq_false_iff_eq, beq_iff_eq, beq_eq_false_iff_ne, decide_eq_true_eq, decide_eq_false_iff_not, Bool.not_eq_true', Bool.not_eq_false', ne_eq, gt_iff_lt, ge_iff_le, Int.not_lt, Int.not_le, Decidable.not_not] at *; omega) | (simp only [bne_iff_ne, bne_eq_false_iff_eq, beq_iff_eq, beq_eq_false_iff_ne, decide_eq_true_eq, decide_eq_false_iff_not, Bool.not_eq_true', Bool.not_eq_false', ne_eq, gt_iff_lt, ge_iff_le, Int.not_lt, Int.not_le, Decidable.not_not] at *; simp_all; done) | (simp_all; omega) | (simp; omega)
            ·
              first | (apply Nat.ble_eq_true_of_le; omega) | (simp [Nat.blt_eq]; omega) | exact hlp | (first | exact prev_fr h (by omega) (by omega) (by omega) | exact prev_ix (by omega) (by omega) (by omega) | exact prev_in (by omega) (by omega) (by omega)) | (rw [hu]; simp; done) | (simp only [bne_iff_ne, bne_eq_false_iff_eq, beq_iff_eq, beq_eq_false_iff_ne, decide_eq_true_eq, decide_eq_false_iff_not, Bool.not_eq_true', Bool.not_eq_false', ne_eq, gt_iff_lt, ge_iff_le, Int.not_lt, Int.not_le, Decidable.not_not] at *; omega) | (simp only [bne_iff_ne, bne_eq_false_iff_eq, beq_iff_eq, beq_eq_false_iff_ne, decide_eq_true_eq, decide_eq_false_iff_not, Bool.not_eq_true', Bool.not_eq_false', ne_eq, gt_iff_lt, ge_iff_le, Int.not_lt, Int.not_le, Decidable.not_not] at *; simp_all; done) | (simp_all; omega) | (simp; omega)
            ·
              first | (apply Nat.ble_eq_true_of_le; omega) | (simp [Nat.blt_eq]; omega) | exact hlp | (first | exact prev_fr h (by omega) (by omega) (by omega) | exact prev_ix (by omega) (by omega) (by omega) | exact prev_in (by omega) (by omega) (by omega)) | (rw [hu]; simp; done) | (simp only [bne_iff_ne, bne_eq_false_iff_eq, beq_iff_eq, beq_eq_false_iff_ne, decide_eq_true_eq, decide_eq_false_iff_not, Bool.not_eq_true', Bool.not_eq_false', ne_eq, gt_iff_lt, ge_iff_le, Int.not_lt, Int.not_le, Decidable.not_not] at *; omega) | (simp only [bne_iff_ne, bne_eq_false_iff_eq, beq_iff_eq, beq_eq_false_iff_ne, decide_eq_true_eq, decide_eq_false_iff_not, Bool.not_eq_true', Bool.not_eq_false', ne_eq, gt_iff_lt, ge_iff_le, Int.not_lt, Int.not_le, Decidable.not_not] at *; simp_all; done) | (simp_all; omega) | (simp; omega)
            ·
              first | (apply Nat.ble_eq_true_of_le; omega) | (simp [Nat.blt_eq]; omega) | exact hlp | (first | exact prev_fr h (by omega) (by omega) (by omega) | exact prev_ix (by omega) (by omega) (by omega) | exact prev_in (by omega) (by omega) (by omega)) | (rw [hu]; simp; done) | (simp only [bne_iff_ne, bne_eq_false_iff_eq, beq_iff_eq, beq_eq_false_iff_ne, decide_eq_true_eq, decide_eq_false_iff_not, Bool.not_eq_true', Bool.not_eq_false', ne_eq, gt_iff_lt, ge_iff_le, Int.not_lt, Int.not_le, Decidable.not_not] at *; omega) | (simp only [bne_iff_ne, bne_eq_false_iff_eq, beq_iff_eq, beq_eq_false_iff_ne, decide_eq_true_eq, decide_eq_false_iff_not, Bool.not_eq_true', Bool.not_eq_false', ne_eq, gt_iff_lt, ge_iff_le, Int.not_lt, Int.not_le, Decidable.not_not] at *; simp_all; done) | (simp_all; omega) | (simp; omega)
            ·
              first | (apply Nat.ble_eq_true_of_le; omega) | (simp [Nat.blt_eq]; omega) | exact hlp | (first | exact prev_fr h (by omega) (by omega) (by omega) | exact prev_ix (by omega) (by omega) (by omega) | exact prev_in (by omega) (by omega) (by omega)) | (rw [hu]; simp; done) | (simp only [bne_iff_ne, bne_eq_false_iff_eq, beq_iff_eq, beq_eq_false_iff_ne, decide_eq_true_eq, decide_eq_false_iff_not, Bool.not_eq_true', Bool.not_eq_false', ne_eq, gt_iff_lt, ge_iff_le, Int.not_lt, Int.not_le, Decidable.not_not] at *; omega) | (simp only [bne_iff_ne, bne_eq_false_iff_eq, beq_iff_eq, beq_eq_false_iff_ne, decide_eq_true_eq, decide_eq_false_iff_not, Bool.not_eq_true', Bool.not_eq_false', ne_eq, gt_iff_lt, ge_iff_le, Int.not_lt, Int.not_le, Decidable.not_not] at *; simp_all; done) | (simp_all; omega) | (simp; omega)
            ·
              first | (apply Nat.ble_eq_true_of_le; omega) | (simp [Nat.blt_eq]; omega) | exact hlp | (first | exact prev_fr h (by omega) (by omega) (by omega) | exact prev_ix (by omega) (by omega) (by omega) | exact prev_in (by omega) (by omega) (by omega)) | (rw [hu]; simp; done) | (simp only [bne_iff_ne, bne_eq_false_iff_eq, beq_iff_eq, beq_eq_false_iff_ne, decide_eq_true_eq, decide_eq_false_iff_not, Bool.not_eq_true', Bool.not_eq_false', ne_eq, gt_iff_lt, ge_iff_le, Int.not_lt, Int.not_le, Decidable.not_not] at *; omega) | (simp only [bne_iff_ne, bne_eq_false_iff_eq, beq_iff_eq, beq_eq_false_iff_ne, decide_eq_true_eq, decide_eq_false_iff_not, Bool.not_eq_true', Bool.not_eq_false', ne_eq, gt_iff_lt, ge_iff_le, Int.not_lt, Int.not_le, Decidable.not_not] at *; simp_all; done) | (simp_all; omega) | (simp; omega)
            ·
              first | (apply Nat.ble_eq_true_of_le; omega) | (simp [Nat.blt_eq]; omega) | exact hlp | (first | exact prev_fr h (by omega) (by omega) (by omega) | exact prev_ix (by omega) (by omega) (by omega) | exact prev_in (by omega) (by omega) (by omega)) | (rw [hu]; simp; done) | (simp only [bne_iff_ne, bne_eq_false_iff_eq, beq_iff_eq, beq_eq_false_iff_ne, decide_eq_true_eq, decide_eq_false_iff_not, Bool.not_eq_true', Bool.not_eq_false', ne_eq, gt_iff_lt, ge_iff_le, Int.not_lt, Int.not_le, Decidable.not_not] at *; omega) | (simp only [bne_iff_ne, bne_eq_false_iff_eq, beq_iff_eq, beq_eq_false_iff_ne, decide_eq_true_eq, decide_eq_false_iff_not, Bool.not_eq_true', Bool.not_eq_false', ne_eq, gt_iff_lt, ge_iff_le, Int.not_lt, Int.not_le, Decidable.not_not] at *; simp_all; done) | (simp_all; omega) | (simp; omega)
            ·
              first | (apply Nat.ble_eq_true_of_le; omega) | (simp [Nat.blt_eq]; omega) | exact hlp | (first | exact prev_fr h (by omega) (by omega) (by omega) | exact prev_ix (by omega) (by omega) (by omega) | exact prev_in (by omega) (by omega) (by omega)) | (rw [hu]; simp; done) | (simp only [bne_iff_ne, bne_eq_false_iff_eq, beq_iff_eq, beq_eq_false_iff_ne, decide_eq_true_eq, decide_eq_false_iff_not, Bool.not_eq_true', Bool.not_eq_false', ne_eq, gt_iff_lt, ge_iff_le, Int.not_lt, Int.not_le, Decidable.not_not] at *; omega) | (simp only [bne_iff_ne, bne_eq_false_iff_eq, beq_iff_eq, beq_eq_false_iff_ne, decide_eq_true_eq, decide_eq_false_iff_not, Bool.not_eq_true', Bool.not_eq_false', ne_eq, gt_iff_lt, ge_iff_le, Int.not_lt, Int.not_le, Decidable.not_not] at *; simp_all; done) | (simp_all; omega) | (simp; omega)
            ·
              first | (apply Nat.ble_eq_true_of_le; omega) | (simp [Nat.blt_eq]; omega) | exact hlp | (first | exact prev_fr h (by omega) (by omega) (by omega) | exact prev_ix (by omega) (by omega) (by omega) | exact prev_in (by omega) (by omega) (by omega)) | (rw [hu]; simp; done) | (simp only [bne_iff_ne, bne_eq_false_iff_eq, beq_iff_eq, beq_eq_false_iff_ne, decide_eq_true_eq, decide_eq_false_iff_not, Bool.not_eq_true', Bool.not_eq_false', ne_eq, gt_iff_lt, ge_iff_le, Int.not_lt, Int.not_le, Decidable.not_not] at *; omega) | (simp only [bne_iff_ne, bne_eq_false_iff_eq, beq_iff_eq, beq_eq_false_iff_ne, decide_eq_true_eq, decide_eq_false_iff_not, Bool.not_eq_true', Bool.not_eq_false', ne_eq, gt_iff_lt, ge_iff_le, Int.not_lt, Int.not_le, Decidable.not_not] at *; simp_all; done) | (simp_all; omega) | (simp; omega)
            ·
              first | (apply Nat.ble_eq_true_of_le; omega) | (simp [Nat.blt_eq]; omega) | exact hlp | (first | exact prev_fr h (by omega) (by omega) (by omega) | exact prev_ix (by omega) (by omega) (by omega) | exact prev_in (by omega) (by omega) (by omega)) | (rw [hu]; simp; done) | (simp only [bne_iff_ne, bne_eq_false_iff_eq, beq_iff_eq, beq_eq_false_iff_ne, decide_eq_true_eq, decide_eq_false_iff_not, Bool.not_eq_true', Bool.not_eq_false', ne_eq, gt_iff_lt, ge_iff_le, Int.not_lt, Int.not_le, Decidable.not_not] at *; omega) | (simp only [bne_iff_ne, bne_eq_false_iff_eq, beq_iff_eq, beq_eq_false_iff_ne, decide_eq_true_eq, decide_eq_false_iff_not, Bool.not_eq_true', Bool.not_eq_false', ne_eq, gt_iff_lt, ge_iff_le, Int.not_lt, Int.not_le, Decidable.not_not] at *; simp_all; done) | (simp_all; omega) | (simp; omega)
          | false =>
            have hc : ClOk S.last (S.C (0 + ii)) := (by rw [Nat.zero_add]; exact h.ok ii (by omega))
            obtain ⟨⟨c1, c2, c3, c4⟩, c5, c6, c7, c8⟩ := hc
            have hu := und_iff h (by omega : ii < S.n)
            have hlp := inn_lp S.n ii S.C (by omega) (by omega) (ord_at h (by omega))
            refine round_norm (s0 := jU S) (ii + 1) (jj_10 ..) (ob_cons rfl (ob_cons rfl (ob_cons rfl (ob_cons rfl (ob_cons rfl (ob_cons ?_ (ob_cons rfl (ob_cons rfl (ob_cons rfl (ob_cons rfl (ob_cons rfl (ob_cons (Nat.le_refl _) (ob_cons (.inl ⟨rfl, rfl⟩) (ob_cons (fun _ => rfl) (ob_cons rfl (ob_cons (Nat.le_refl _) (ob_cons (.inl ⟨rfl, rfl⟩) (ob_cons ?_ (ob_cons ?_ (ob_cons ?_ (ob_cons h12 (ob_cons ?_ (ob_cons h10 (ob_cons ?_ (ob_cons ?_ (ob_cons ?_ (ob_cons h11 (ob_cons ?_ (ob_cons h10 (ob_cons h2 (ob_cons ?_ (ob_cons ?_ (ob_cons ?_ (ob_cons h1 ob_nil)))))))))))))))))))))))))))))))))) (by show ii + 1 ≤ S.n; omega) (by show S.n - (ii + 1) < S.n - ii; omega)
            ·
              first | exact wrap_nat64 _ (by simp; omega) (by simp; omega) | exact hlp | (first | exact prev_fr h (by omega) (by omega) (by omega) | exact prev_ix (by omega) (by omega) (by omega) | exact prev_in (by omega) (by omega) (by omega)) | (rw [hu]; simp; done) | (simp only [bne_iff_ne, bne_eq_false_iff_eq, beq_iff_eq, beq_eq_false_iff_ne, decide_eq_true_eq, decide_eq_false_iff_not, Bool.not_eq_true', Bool.not_eq_false', ne_eq, gt_iff_lt, ge_iff_le, Int.not_lt, Int.not_le, Decidable.not_not] at *; omega) | (simp only [bne_iff_ne, bne_eq_false_iff_eq, beq_iff_eq, beq_eq_false_iff_ne, decide_eq_true_eq, decide_eq_false_iff_not, Bool.not_eq_true', Bool.not_eq_false', ne_eq, gt_iff_lt, ge_iff_le, Int.not_lt, Int.not_le, Decidable.not_not] at *; simp_all; done) | (simp_all; omega) | (simp; omega)
            ·
              first | (apply Nat.ble_eq_true_of_le; omega) | (simp [Nat.blt_eq]; omega) | exact hlp | (first | exact prev_fr h (by omega) (by omega) (by omega) | exact prev_ix (by omega) (by omega) (by omega) | exact prev_in (by omega) (by omega) (by omega)) | (rw [hu]; simp; done) | (simp only [bne_iff_ne, bne_eq_false_iff_eq, beq_iff_eq, beq_eq_false_iff_ne, decide_eq_true_eq, decide_eq_false_iff_not, Bool.not_eq_true', Bool.not_eq_false', ne_eq, gt_iff_lt, ge_iff_le, Int.not_lt, Int.not_le, Decidable.not_not] at *; omega) | (simp only [bne_iff_ne, bne_eq_false_iff_eq, beq_iff_eq, beq_eq_false_iff_ne, decide_eq_true_eq, decide_eq_false_iff_not, Bool.not_eq_true', Bool.not_eq_false', ne_eq, gt_iff_lt, ge_iff_le, Int.not_lt, Int.not_le, Decidable.not_not] at *; simp_all; done) | (simp_all; omega) | (simp; omega)
            ·
              first | trivial | exact hlp | (first | exact prev_fr h (by omega) (by omega) (by omega) | exact prev_ix (by omega) (by omega) (by omega) | exact prev_in (by omega) (by omega) (by omega)) | (rw [hu]; simp; done) | (simp only [bne_iff_ne, bne_eq_false_iff_eq, beq_iff_eq, beq_eq_false_iff_ne, decide_eq_true_eq, decide_eq_false_iff_not, Bool.not_eq_true', Bool.not_eq_false', ne_eq, gt_iff_lt, ge_iff_le, Int.not_lt, Int.not_le, Decidable.not_not] at *; omega) | (simp only [bne_iff_ne, bne_eq_false_iff_eq, beq_iff_eq, beq_eq_false_iff_ne, decide_eq_true_eq, decide_eq_false_iff_not, Bool.not_eq_true', Bool.not_eq_false', ne_eq, gt_iff_lt, ge_iff_le, Int.not_lt, Int.not_le, Decidable.not_not] at *; simp_all; done) | (simp_all; omega) | (simp; omega)
            ·
              first | (apply Nat.ble_eq_true_of_le; omega) | (simp [Nat.blt_eq]; omega) | exact hlp | (first | exact prev_fr h (by omega) (by omega) (by omega) | exact prev_ix (by omega) (by omega) (by omega) | exact prev_in (by omega) (by omega) (by omega)) | (rw [hu]; simp; done) | (simp only [bne_iff_ne, bne_eq_false_iff_eq, beq_iff_eq, beq_eq_false_iff_ne, decide_eq_true_eq, decide_eq_false_iff_not, Bool.not_eq_true', Bool.not_eq_false', ne_eq, gt_iff_lt, ge_iff_le, Int.not_lt, Int.not_le, Decidable.not_not] at *; omega) | (simp only [bne_iff_ne, bne_eq_false_iff_eq, beq_iff_eq, beq_eq_false_iff_ne, decide_eq_true_eq, decide_eq_false_iff_not, Bool.not_eq_true', Bool.not_eq_false', ne_eq, gt_iff_lt, ge_iff_le, Int.not_lt, Int.not_le, Decidable.not_not] at *; simp_all; done) | (simp_all; omega) | (simp; omega)
            ·
              first | (apply Nat.ble_eq_true_of_le; omega) | (simp [Nat.blt_eq]; omega) | exact hlp | (first | exact prev_fr h (by omega) (by omega) (by omega) | exact prev_ix (by omega) (by omega) (by omega) | exact prev_in (by omega) (by omega) (by omega)) | (rw [hu]; simp; done) | (simp only [bne_iff_ne, bne_eq_false_iff_eq, beq_iff_eq, beq_eq_false_iff_ne, decide_eq_true_eq, decide_eq_false_iff_not, Bool.not_eq_true', Bool.not_eq_false', ne_eq, gt_iff_lt, ge_iff_le, Int.not_lt, Int.not_le, Decidable.not_not] at *; omega) | (simp only [bne_iff_ne, bne_eq_false_iff_eq, beq_iff_eq, beq_eq_false_iff_ne, decide_eq_true_eq, decide_eq_false_iff_not, Bool.not_eq_true', Bool.not_eq_false', ne_eq, gt_iff_lt, ge_iff_le, Int.not_lt, Int.not_le, Decidable.not_not] at *; simp_all; done) | (simp_all; omega) | (simp; omega)
            ·
              first | (apply Nat.ble_eq_true_of_le; omega) | (simp [Nat.blt_eq]; omega) | exact hlp | (first | exact prev_fr h (by omega) (by omega) (by omega) | exact prev_ix (by omega) (by omega) (by omega) | exact prev_in (by omega) (by omega) (by omega)) | (rw [hu]; simp; done) | (simp only [bne_iff_ne, bne_eq_false_iff_eq, beq_iff_eq, beq_eq_false_iff_ne, decide_eq_true_eq, decide_eq_false_iff_not, Bool.not_eq_true', Bool.not_eq_false', ne_eq, gt_iff_lt, ge_iff_le, Int.not_lt, Int.not_le, Decidable.not_not] at *; omega) | (simp only [bne_iff_ne, bne_eq_false_iff_eq, beq_iff_eq, beq_eq_false_iff_ne, decide_eq_true_eq, decide_eq_false_iff_not, Bool.not_eq_true', Bool.not_eq_false', ne_eq, gt_iff_lt, ge_iff_le, Int.not_lt, Int.not_le, Decidable.not_not] at *; simp_all; done) | (simp_all; omega) | (simp; omega)
            ·
              first | (apply Nat.ble_eq_true_of_le; omega) | (simp [Nat.blt_eq]; omega) | exact hlp | (first | exact prev_fr h (by omega) (by omega) (by omega) | exact prev_ix (by omega) (by omega) (by omega) | exact prev_in (by omega) (by omega) (by omega)) | (rw [hu]; simp; done) | (simp only [bne_iff_ne, bne_eq_false_iff_eq, beq_iff_eq, beq_eq_false_iff_ne, decide_eq_true_eq, decide_eq_false_iff_not, Bool.not_eq_true', Bool.not_eq_false', ne_eq, gt_iff_lt, ge_iff_le, Int.not_lt, Int.not_le, Decidable.not_not] at *; omega) | (simp only [bne_iff_ne, bne_eq_false_iff_eq, beq_iff_eq, beq_eq_false_iff_ne, decide_eq_true_eq, decide_eq_false_iff_not, Bool.not_eq_true', Bool.not_eq_false', ne_eq, gt_iff_lt, ge_iff_le, Int.not_lt, Int.not_le, Decidable.not_not] at *; simp_all; done) | (simp_all; omega) | (simp; omega)
            ·
              first | (apply Nat.ble_eq_true_of_le; omega) | (simp [Nat.blt_eq]; omega) | exact hlp | (first | exact prev_fr h (by omega) (by omega) (by omega) | exact prev_ix (by omega) (by omega) (by omega) | exact prev_in (by omega) (by omega) (by omega)) | (rw [hu]; simp; done) | (simp only [bne_iff_ne, bne_eq_false_iff_eq, beq_iff_eq, beq_eq_false_iff_ne, decide_eq_true_eq, decide_eq_false_iff_not, Bool.not_eq_true', Bool.not_eq_false', ne_eq, gt_iff_lt, ge_iff_le, Int.not_lt, Int.not_le, Decidable.not_not] at *; omega) | (simp only [bne_iff_ne, bne_eq_false_iff_eq, beq_iff_eq, beq_eq_false_iff_ne, decide_eq_true_eq, decide_eq_false_iff_not, Bool.not_eq_true', Bool.not_eq_false', ne_eq, gt_iff_lt, ge_iff_le, Int.not_lt, Int.not_le, Decidable.not_not] at *; simp_all; done) | (simp_all; omega) | (simp; omega)
            ·
              first | (apply Nat.ble_eq_true_of_le; omega) | (simp [Nat.blt_eq]; omega) | exact hlp | (first | exact prev_fr h (by omega) (by omega) (by omega) | exact prev_ix (by omega) (by omega) (by omega) | exact prev_in (by omega) (by omega) (by omega)) | (rw [hu]; simp; done) | (simp only [bne_iff_ne, bne_eq_false_iff_eq, beq_iff_eq, beq_eq_false_iff_ne, decide_eq_true_eq, decide_eq_false_iff_not, Bool.not_eq_true', Bool.not_eq_false', ne_eq, gt_iff_lt, ge_iff_le, Int.not_lt, Int.not_le, Decidable.not_not] at *; omega) | (simp only [bne_iff_ne, bne_eq_false_iff_eq, beq_iff_eq, beq_eq_false_iff_ne, decide_eq_true_eq, decide_eq_false_iff_not, Bool.not_eq_true', Bool.not_eq_false', ne_eq, gt_iff_lt, ge_iff_le, Int.not_lt, Int.not_le, Decidable.not_not] at *; simp_all; done) | (simp_all; omega) | (simp; omega)
            ·
              first | (apply Nat.ble_eq_true_of_le; omega) | (simp [Nat.blt_eq]; omega) | exact hlp | (first | exact prev_fr h (by omega) (by omega) (by omega) | exact prev_ix (by omega) (by omega) (by omega) | exact prev_in (by omega) (by omega) (by omega)) | (rw [hu]; simp; done) | (simp only [bne_iff_ne, bne_eq_false_iff_eq, beq_iff_eq, beq_eq_false_iff_ne, decide_eq_true_eq, decide_eq_false_iff_not, Bool.not_eq_true', Bool.not_eq_false', ne_eq, gt_iff_lt, ge_iff_le, Int.not_lt, Int.not_le, Decidable.not_not] at *; omega) | (simp only [bne_iff_ne, bne_eq_false_iff_eq, beq_iff_eq, beq_eq_false_iff_ne, decide_eq_true_eq, decide_eq_false_iff_not, Bool.not_eq_true', Bool.not_eq_false', ne_eq, gt_iff_lt, ge_iff_le, Int.not_lt, Int.not_le, Decidable.not_not] at *; simp_all; done) | (simp_all; omega) | (simp; omega)
            ·
              first | (apply Nat.ble_eq_true_of_le; omega) | (simp [Nat.blt_eq]; omega) | exact hlp | (first | exact prev_fr h (by omega) (by omega) (by omega) | exact prev_ix (by omega) (by omega) (by omega) | exact prev_in (by omega) (by omega) (by omega)) | (rw [hu]; simp; done) | (simp only [bne_iff_ne, bne_eq_false_iff_eq, beq_iff_eq, beq_eq_false_iff_ne, decide_eq_true_eq, decide_eq_false_iff_not, Bool.not_eq_true', Bool.not_eq_false', ne_eq, gt_iff_lt, ge_iff_le, Int.not_lt, Int.not_le, Decidable.not_not] at *; omega) | (simp only [bne_iff_ne, bne_eq_false_iff_eq, beq_iff_eq, beq_eq_false_iff_ne, decide_eq_true_eq, decide_eq_false_iff_not, Bool.not_eq_true', Bool.not_eq_false', ne_eq, gt_iff_lt, ge_iff_le, Int.not_lt, Int.not_le, Decidable.not_not] at *; simp_all; done) | (simp_all; omega) | (simp; omega)
            ·
              first | (apply Nat.ble_eq_true_of_le; omega) | (simp [Nat.blt_eq]; omega) | exact hlp | (first | exact prev_fr h (by omega) (by omega) (by omega) | exact prev_ix (by omega) (by omega) (by omega) | exact prev_in (by omega) (by omega) (by omega)) | (rw [hu]; simp; done) | (simp only [bne_iff_ne, bne_eq_false_iff_eq, beq_iff_eq, beq_eq_false_iff_ne, decide_eq_true_eq, decide_eq_false_iff_not, Bool.not_eq_true', Bool.not_eq_false', ne_eq, gt_iff_lt, ge_iff_le, Int.not_lt, Int.not_le, Decidable.not_not] at *; omega) | (simp only [bne_iff_ne, bne_eq_false_iff_eq, beq_iff_eq, beq_eq_false_iff_ne, decide_eq_true_eq, decide_eq_false_iff_not, Bool.not_eq_true', Bool.not_eq_false', ne_eq, gt_iff_lt, ge_iff_le, Int.not_lt, Int.not_le, Decidable.not_not] at *; simp_all; done) | (simp_all; omega) | (simp; omega)
        | false =>
          have g11 := of_decide_eq_false h11
          try simp only [Int.ofNat_eq_natCast, ge_iff_le, gt_iff_lt, Int.not_lt, Int.not_le] at g11
          cases h13 : ((S.C (0 + ii)).5 == 1) with
          | true =>
            have hc : ClOk S.last (S.C (0 + ii)) := (by rw [Nat.zero_add]; exact h.ok ii (by omega))
            obtain ⟨⟨c1, c2, c3, c4⟩, c5, c6, c7, c8⟩ := hc
            have hu := und_iff h (by omega : ii < S.n)
            have hlp := inn_lp S.n ii S.C (by omega) (by omega) (ord_at h (by omega))
            refine round_norm (s0 := jU S) (ii + 1) (jj_11 ..) (ob_cons rfl (ob_cons rfl (ob_cons rfl (ob_cons rfl (ob_cons rfl (ob_cons ?_ (ob_cons rfl (ob_cons rfl (ob_cons rfl (ob_cons rfl (ob_cons rfl (ob_cons (Nat.le_refl _) (ob_cons (.inl ⟨rfl, rfl⟩) (ob_cons (fun _ => rfl) (ob_cons rfl (ob_cons (Nat.le_refl _) (ob_cons (.inl ⟨rfl, rfl⟩) (ob_cons ?_ (ob_cons ?_ (ob_cons ?_ (ob_cons h13 (ob_cons ?_ (ob_cons h10 (ob_cons h11 (ob_cons ?_ (ob_cons h10 (ob_cons h2 (ob_cons ?_ (ob_cons ?_ (ob_cons ?_ (ob_cons h1 ob_nil))))))))))))))))))))))))))))))) (by show ii + 1 ≤ S.n; omega) (by show S.n - (ii + 1) < S.n - ii; omega)
            ·
              first | exact wrap_nat64 _ (by simp; omega) (by simp; omega) | exact hlp | (first | exact prev_fr h (by omega) (by omega) (by omega) | exact prev_ix (by omega) (by omega) (by omega) | exact prev_in (by omega) (by omega) (by omega)) | (rw [hu]; simp; done) | (simp only [bne_iff_ne, bne_eq_false_iff_eq, beq_iff_eq, beq_eq_false_iff_ne, decide_eq_true_eq, decide_eq_false_iff_not, Bool.not_eq_true', Bool.not_eq_false', ne_eq, gt_iff_lt, ge_iff_le, Int.not_lt, Int.not_le, Decidable.not_not] at *; omega) | (simp only [bne_iff_ne, bne_eq_false_iff_eq, beq_iff_eq, beq_eq_false_iff_ne, decide_eq_true_eq, decide_eq_false_iff_not, Bool.not_eq_true', Bool.not_eq_false', ne_eq, gt_iff_lt, ge_iff_le, Int.not_lt, Int.not_le, Decidable.not_not] at *; simp_all; done) | (simp_all; omega) | (simp; omega)
            ·
              first | (apply Nat.ble_eq_true_of_le; omega) | (simp [Nat.blt_eq]; omega) | exact hlp | (first | exact prev_fr h (by omega) (by omega) (by omega) | exact prev_ix (by omega) (by omega) (by omega) | exact prev_in (by omega) (by omega) (by omega)) | (rw [hu]; simp; done) | (simp only [bne_iff_ne, bne_eq_false_iff_eq, beq_iff_eq, beq_eq_false_iff_ne, decide_eq_true_eq, decide_eq_false_iff_not, Bool.not_eq_true', Bool.not_eq_false', ne_eq, gt_iff_lt, ge_iff_le, Int.not_lt, Int.not_le, Decidable.not_not] at *; omega) | (simp only [bne_iff_ne, bne_eq_false_iff_eq, beq_iff_eq, beq_eq_false_iff_ne, decide_eq_true_eq, decide_eq_false_iff_not, Bool.not_eq_true', Bool.not_eq_false', ne_eq, gt_iff_lt, ge_iff_le, Int.not_lt, Int.not_le, Decidable.not_not] at *; simp_all; done) | (simp_all; omega) | (simp; omega)
            ·
              first | trivial | exact hlp | (first | exact prev_fr h (by omega) (by omega) (by omega) | exact prev_ix (by omega) (by omega) (by omega) | exact prev_in (by omega) (by omega) (by omega)) | (rw [hu]; simp; done) | (simp only [bne_iff_ne, bne_eq_false_iff_eq, beq_iff_eq, beq_eq_false_iff_ne, decide_eq_true_eq, decide_eq_false_iff_not, Bool.not_eq_true', Bool.not_eq_false', ne_eq, gt_iff_lt, ge_iff_le, Int.not_lt, Int.not_le, Decidable.not_not] at *; omega) | (simp only [bne_iff_ne, bne_eq_false_iff_eq, beq_iff_eq, beq_eq_false_iff_ne, decide_eq_true_eq, decide_eq_false_iff_not, Bool.not_eq_true', Bool.not_eq_false', ne_eq, gt_iff_lt, ge_iff_le, Int.not_lt, Int.not_le, Decidable.not_not] at *; simp_all; done) | (simp_all; omega) | (simp; omega)
            ·
              first | (apply Nat.ble_eq_true_of_le; omega) | (simp [Nat.blt_eq]; omega) | exact hlp | (first | exact prev_fr h (by omega) (by omega) (by omega) | exact prev_ix (by omega) (by omega) (by omega) | exact prev_in (by omega) (by omega) (by omega)) | (rw [hu]; simp; done) | (simp only [bne_iff_ne, bne_eq_false_iff_eq, beq_iff_eq, beq_eq_false_iff_ne, decide_eq_true_eq, decide_eq_false_iff_not, Bool.not_eq_true', Bool.not_eq_false', ne_eq, gt_iff_lt, ge_iff_le, Int.not_lt, Int.not_le, Decidable.not_not] at *; omega) | (simp only [bne_iff_ne, bne_eq_false_iff_eq, beq_iff_eq, beq_eq_false_iff_ne, decide_eq_true_eq, decide_eq_false_iff_not, Bool.not_eq_true', Bool.not_eq_false', ne_eq, gt_iff_lt, ge_iff_le, Int.not_lt, Int.not_le, Decidable.not_not] at *; simp_all; done) | (simp_all; omega) | (simp; omega)
            ·
              first | (apply Nat.ble_eq_true_of_le; omega) | (simp [Nat.blt_eq]; omega) | exact hlp | (first | exact prev_fr h (by omega) (by omega) (by omega) | exact prev_ix (by omega) (by omega) (by omega) | exact prev_in (by omega) (by omega) (by omega)) | (rw [hu]; simp; done) | (simp only [bne_iff_ne, bne_eq_false_iff_eq, beq_iff_eq, beq_eq_false_iff_ne, decide_eq_true_eq, decide_eq_false_iff_not, Bool.not_eq_true', Bool.not_eq_false', ne_eq, gt_iff_lt, ge_iff_le, Int.not_lt, Int.not_le, Decidable.not_not] at *; omega) | (simp only [bne_iff_ne, bne_eq_false_iff_eq, beq_iff_eq, beq_eq_false_iff_ne, decide_eq_true_eq, decide_eq_false_iff_not, Bool.not_eq_true', Bool.not_eq_false', ne_eq, gt_iff_lt, ge_iff_le, Int.not_lt, Int.not_le, Decidable.not_not] at *; simp_all; done) | (simp_all; omega) | (simp; omega)
            ·
              first | (apply Nat.ble_eq_true_of_le; omega) | (simp [Nat.blt_eq]; omega) | exact hlp | (first | exact prev_fr h (by omega) (by omega) (by omega) | exact prev_ix (by omega) (by omega) (by omega) | exact prev_in (by omega) (by omega) (by omega)) | (rw [hu]; simp; done) | (simp only [bne_iff_ne, bne_eq_false_iff_eq, beq_iff_eq, beq_eq_false_iff_ne, decide_eq_true_eq, decide_eq_false_iff_not, Bool.not_eq_true', Bool.not_eq_false', ne_eq, gt_iff_lt, ge_iff_le, Int.not_lt, Int.not_le, Decidable.not_not] at *; omega) | (simp only [bne_iff_ne, bne_eq_false_iff_eq, beq_iff_eq, beq_eq_false_iff_ne, decide_eq_true_eq, decide_eq_false_iff_not, Bool.not_eq_true', Bool.not_eq_false', ne_eq, gt_iff_lt, ge_iff_le, Int.not_lt, Int.not_le, Decidable.not_not] at *; simp_all; done) | (simp_all; omega) | (simp; omega)
            ·
              first | (apply Nat.ble_eq_true_of_le; omega) | (simp [Nat.blt_eq]; omega) | exact hlp | (first | exact prev_fr h (by omega) (by omega) (by omega) | exact prev_ix (by omega) (by omega) (by omega) | exact prev_in (by omega) (by omega) (by omega)) | (rw [hu]; simp; done) | (simp only [bne_iff_ne, bne_eq_false_iff_eq, beq_iff_eq, beq_eq_false_iff_ne, decide_eq_true_eq, decide_eq_false_iff_not, Bool.not_eq_true', Bool.not_eq_false', ne_eq, gt_iff_lt, ge_iff_le, Int.not_lt, Int.not_le, Decidable.not_not] at *; omega) | (simp only [bne_iff_ne, bne_eq_false_iff_eq, beq_iff_eq, beq_eq_false_iff_ne, decide_eq_true_eq, decide_eq_false_iff_not, Bool.not_eq_true', Bool.not_eq_false', ne_eq, gt_iff_lt, ge_iff_le, Int.not_lt, Int.not_le, Decidable.not_not] at *; simp_all; done) | (simp_all; omega) | (simp; omega)
            ·
              first | (apply Nat.ble_eq_true_of_le; omega) | (simp [Nat.blt_eq]; omega) | exact hlp | (first | exact prev_fr h (by omega) (by omega) (by omega) | exact prev_ix (by omega) (by omega) (by omega) | exact prev_in (by omega) (by omega) (by omega)) | (rw [hu]; simp; done) | (simp only [bne_iff_ne, bne_eq_false_iff_eq, beq_iff_eq, beq_eq_false_iff_ne, decide_eq_true_eq, decide_eq_false_iff_not, Bool.not_eq_true', Bool.not_eq_false', ne_eq, gt_iff_lt, ge_iff_le, Int.not_lt, Int.not_le, Decidable.not_not] at *; omega) | (simp only [bne_iff_ne, bne_eq_false_iff_eq, beq_iff_eq, beq_eq_false_iff_ne, decide_eq_true_eq, decide_eq_false_iff_not, Bool.not_eq_true', Bool.not_eq_false', ne_eq, gt_iff_lt, ge_iff_le, Int.not_lt, Int.not_le, Decidable.not_not] at *; simp_all; done) | (simp_all; omega) | (simp; omega)
            ·
              first | (apply Nat.ble_eq_true_of_le; omega) | (simp [Nat.blt_eq]; omega) | exact hlp | (first | exact prev_fr h (by omega) (by omega) (by omega) | exact prev_ix (by omega) (by omega) (by omega) | exact prev_in (by omega) (by omega) (by omega)) | (rw [hu]; simp; done) | (simp only [bne_iff_ne, bne_eq_false_iff_eq, beq_iff_eq, beq_eq_false_iff_ne, decide_eq_true_eq, decide_eq_false_iff_not, Bool.not_eq_true', Bool.not_eq_false', ne_eq, gt_iff_lt, ge_iff_le, Int.not_lt, Int.not_le, Decidable.not_not] at *; omega) | (simp only [bne_iff_ne, bne_eq_false_iff_eq, beq_iff_eq, beq_eq_false_iff_ne, decide_eq_true_eq, decide_eq_false_iff_not, Bool.not_eq_true', Bool.not_eq_false', ne_eq, gt_iff_lt, ge_iff_le, Int.not_lt, Int.not_le, Decidable.not_not] at *; simp_all; done) | (simp_all; omega) | (simp; omega)
          | false =>
            have hc : ClOk S.last (S.C (0 + ii)) := (by rw [Nat.zero_add]; exact h.ok ii (by omega))
            obtain ⟨⟨c1, c2, c3, c4⟩, c5, c6, c7, c8⟩ := hc
            have hu := und_iff h (by omega : ii < S.n)
            have hlp := inn_lp S.n ii S.C (by omega) (by omega) (ord_at h (by omega))
            refine round_norm (s0 := jU S) (ii + 1) (jj_12 ..) (ob_cons rfl (ob_cons rfl (ob_cons rfl (ob_cons rfl (ob_cons rfl (ob_cons ?_ (ob_cons rfl (ob_cons rfl (ob_cons rfl (ob_cons rfl (ob_cons rfl (ob_cons (Nat.le_refl _) (ob_cons (.inl ⟨rfl, rfl⟩) (ob_cons (fun _ => rfl) (ob_cons rfl (ob_cons (Nat.le_refl _) (ob_cons (.inl ⟨rfl, rfl⟩) (ob_cons ?_ (ob_cons ?_ (ob_cons ?_ (ob_cons h13 (ob_cons ?_ (ob_cons h10 (ob_cons h11 (ob_cons ?_ (ob_cons h10 (ob_cons h2 (ob_cons ?_ (ob_cons ?_ (ob_cons ?_ (ob_cons h1 ob_nil))))))))))))))))))))))))))))))) (by show ii + 1 ≤ S.n; omega) (by show S.n - (ii + 1) < S.n - ii; omega)
            ·
              first | exact wrap_nat64 _ (by simp; omega) (by simp; omega) | exact hlp | (first | exact prev_fr h (by omega) (by omega) (by omega) | exact prev_ix (by omega) (by omega) (by omega) | exact prev_in (by omega) (by omega) (by omega)) | (rw [hu]; simp; done) | (simp only [bne_iff_ne, bne_eq_false_iff_eq, beq_iff_eq, beq_eq_false_iff_ne, decide_eq_true_eq, decide_eq_false_iff_not, Bool.not_eq_true', Bool.not_eq_false', ne_eq, gt_iff_lt, ge_iff_le, Int.not_lt, Int.not_le, Decidable.not_not] at *; omega) | (simp only [bne_iff_ne, bne_eq_false_iff_eq, beq_iff_eq, beq_eq_false_iff_ne, decide_eq_true_eq, decide_eq_false_iff_not, Bool.not_eq_true', Bool.not_eq_false', ne_eq, gt_iff_lt, ge_iff_le, Int.not_lt, Int.not_le, Decidable.not_not] at *; simp_all; done) | (simp_all; omega) | (simp; omega)
            ·
              first | (apply Nat.ble_eq_true_of_le; omega) | (simp [Nat.blt_eq]; omega) | exact hlp | (first | exact prev_fr h (by omega) (by omega) (by omega) | exact prev_ix (by omega) (by omega) (by omega) | exact prev_in (by omega) (by omega) (by omega)) | (rw [hu]; simp; done) | (simp only [bne_iff_ne, bne_eq_false_iff_eq, beq_iff_eq, beq_eq_false_iff_ne, decide_eq_true_eq, decide_eq_false_iff_not, Bool.not_eq_true', Bool.not_eq_false', ne_eq, gt_iff_lt, ge_iff_le, Int.not_lt, Int.not_le, Decidable.not_not] at *; omega) | (simp only [bne_iff_ne, bne_eq_false_iff_eq, beq_iff_eq, beq_eq_false_iff_ne, decide_eq_true_eq, decide_eq_false_iff_not, Bool.not_eq_true', Bool.not_eq_false', ne_eq, gt_iff_lt, ge_iff_le, Int.not_lt, Int.not_le, Decidable.not_not] at *; simp_all; done) | (simp_all; omega) | (simp; omega)
            ·
              first | trivial | exact hlp | (first | exact prev_fr h (by omega) (by omega) (by omega) | exact prev_ix (by omega) (by omega) (by omega) | exact prev_in (by omega) (by omega) (by omega)) | (rw [hu]; simp; done) | (simp only [bne_iff_ne, bne_eq_false_iff_eq, beq_iff_eq, beq_eq_false_iff_ne, decide_eq_true_eq, decide_eq_false_iff_not, Bool.not_eq_true', Bool.not_eq_false', ne_eq, gt_iff_lt, ge_iff_le, Int.not_lt, Int.not_le, Decidable.not_not] at *; omega) | (simp only [bne_iff_ne, bne_eq_false_iff_eq, beq_iff_eq, beq_eq_false_iff_ne, decide_eq_true_eq, decide_eq_false_iff_not, Bool.not_eq_true', Bool.not_eq_false', ne_eq, gt_iff_lt, ge_iff_le, Int.not_lt, Int.not_le, Decidable.not_not] at *; simp_all; done) | (simp_all; omega) | (simp; omega)
            ·
              first | (apply Nat.ble_eq_true_of_le; omega) | (simp [Nat.blt_eq]; omega) | exact hlp | (first | exact prev_fr h (by omega) (by omega) (by omega) | exact prev_ix (by omega) (by omega) (by omega) | exact prev_in (by omega) (by omega) (by omega)) | (rw [hu]; simp; done) | (simp only [bne_iff_ne, bne_eq_false_iff_eq, beq_iff_eq, beq_eq_false_iff_ne, decide_eq_true_eq, decide_eq_false_iff_not, Bool.not_eq_true', Bool.not_eq_false', ne_eq, gt_iff_lt, ge_iff_le, Int.not_lt, Int.not_le, Decidable.not_not] at *; omega) | (simp only [bne_iff_ne, bne_eq_false_iff_eq, beq_iff_eq, beq_eq_false_iff_ne, decide_eq_true_eq, decide_eq_false_iff_not, Bool.not_eq_true', Bool.not_eq_false', ne_eq, gt_iff_lt, ge_iff_le, Int.not_lt, Int.not_le, Decidable.not_not] at *; simp_all; done) | (simp_all; omega) | (simp; omega)
            ·
              first | (apply Nat.ble_eq_true_of_le; omega) | (simp [Nat.blt_eq]; omega) | exact hlp | (first | exact prev_fr h (by omega) (by omega) (by omega) | exact prev_ix (by omega) (by omega) (by omega) | exact prev_in (by omega) (by omega) (by omega)) | (rw [hu]; simp; done) | (simp only [bne_iff_ne, bne_eq_false_iff_eq, beq_iff_eq, beq_eq_false_iff_ne, decide_eq_true_eq, decide_eq_false_iff_not, Bool.not_eq_true', Bool.not_eq_false', ne_eq, gt_iff_lt, ge_iff_le, Int.not_lt, Int.not_le, Decidable.not_not] at *; omega) | (simp only [bne_iff_ne, bne_eq_false_iff_eq, beq_iff_eq, beq_eq_false_iff_ne, decide_eq_true_eq, decide_eq_false_iff_not, Bool.not_eq_true', Bool.not_eq_false', ne_eq, gt_iff_lt, ge_iff_le, Int.not_lt, Int.not_le, Decidable.not_not] at *; simp_all; done) | (simp_all; omega) | (simp; omega)
            ·
              first | (apply Nat.ble_eq_true_of_le; omega) | (simp [Nat.blt_eq]; omega) | exact hlp | (first | exact prev_fr h (by omega) (by omega) (by omega) | exact prev_ix (by omega) (by omega) (by omega) | exact prev_in (by omega) (by omega) (by omega)) | (rw [hu]; simp; done) | (simp only [bne_iff_ne, bne_eq_false_iff_eq, beq_iff_eq, beq_eq_false_iff_ne, decide_eq_true_eq, decide_eq_false_iff_not, Bool.not_eq_true', Bool.not_eq_false', ne_eq, gt_iff_lt, ge_iff_le, Int.not_lt, Int.not_le, Decidable.not_not] at *; omega) | (simp only [bne_iff_ne, bne_eq_false_iff_eq, beq_iff_eq, beq_eq_false_iff_ne, decide_eq_true_eq, decide_eq_false_iff_not, Bool.not_eq_true', Bool.not_eq_false', ne_eq, gt_iff_lt, ge_iff_le, Int.not_lt, Int.not_le, Decidable.not_not] at *; simp_all; done) | (simp_all; omega) | (simp; omega)
            ·
              first | (apply Nat.ble_eq_true_of_le; omega) | (simp [Nat.blt_eq]; omega) | exact hlp | (first | exact prev_fr h (by omega) (by omega) (by omega) | exact prev_ix (by omega) (by omega) (by omega) | exact prev_in (by omega) (by omega) (by omega)) | (rw [hu]; simp; done) | (simp only [bne_iff_ne, bne_eq_false_iff_eq, beq_iff_eq, beq_eq_false_iff_ne, decide_eq_true_eq, decide_eq_false_iff_not, Bool.not_eq_true', Bool.not_eq_false', ne_eq, gt_iff_lt, ge_iff_le, Int.not_lt, Int.not_le, Decidable.not_not] at *; omega) | (simp only [bne_iff_ne, bne_eq_false_iff_eq, beq_iff_eq, beq_eq_false_iff_ne, decide_eq_true_eq, decide_eq_false_iff_not, Bool.not_eq_true', Bool.not_eq_false', ne_eq, gt_iff_lt, ge_iff_le, Int.not_lt, Int.not_le, Decidable.not_not] at *; simp_all; done) | (simp_all; omega) | (simp; omega)
            ·
              first | (apply Nat.ble_eq_true_of_le; omega) | (simp [Nat.blt_eq]; omega) | exact hlp | (first | exact prev_fr h (by omega) (by omega) (by omega) | exact prev_ix (by omega) (by omega) (by omega) | exact prev_in (by omega) (by omega) (by omega)) | (rw [hu]; simp; done) | (simp only [bne_iff_ne, bne_eq_false_iff_eq, beq_iff_eq, beq_eq_false_iff_ne, decide_eq_true_eq, decide_eq_false_iff_not, Bool.not_eq_true', Bool.not_eq_false', ne_eq, gt_iff_lt, ge_iff_le, Int.not_lt, Int.not_le, Decidable.not_not] at *; omega) | (simp only [bne_iff_ne, bne_eq_false_iff_eq, beq_iff_eq, beq_eq_false_iff_ne, decide_eq_true_eq, decide_eq_false_iff_not, Bool.not_eq_true', Bool.not_eq_false', ne_eq, gt_iff_lt, ge_iff_le, Int.not_lt, Int.not_le, Decidable.not_not] at *; simp_all; done) | (simp_all; omega) | (simp; omega)
            ·
              first | (apply Nat.ble_eq_true_of_le; omega) | (simp [Nat.blt_eq]; omega) | exact hlp | (first | exact prev_fr h (by omega) (by omega) (by omega) | exact prev_ix (by omega) (by omega) (by omega) | exact prev_in (by omega) (by omega) (by omega)) | (rw [hu]; simp; done) | (simp only [bne_iff_ne, bne_eq_false_iff_eq, beq_iff_eq, beq_eq_false_iff_ne, decide_eq_true_eq, decide_eq_false_iff_not, Bool.not_eq_true', Bool.not_eq_false', ne_eq, gt_iff_lt, ge_iff_le, Int.not_lt, Int.not_le, Decidable.not_not] at *; omega) | (simp only [bne_iff_ne, bne_eq_false_iff_eq, beq_iff_eq, beq_eq_false_iff_ne, decide_eq_true_eq, decide_eq_false_iff_not, Bool.not_eq_true', Bool.not_eq_false', ne_eq, gt_iff_lt, ge_iff_le, Int.not_lt, Int.not_le, Decidable.not_not] at *; simp_all; done) | (simp_all; omega) | (simp; omega)
      | false =>
        cases h14 : (decide (Int.ofNat ii > 0)) with
        | true =>
          have g14 := of_decide_eq_true h14
          try simp only [Int.ofNat_eq_natCast, ge_iff_le, gt_iff_lt, Int.not_lt, Int.not_le] at g14
          cases h15 : ((S.C (0 + ii)).5 == 1) with
          | true =>
            have hc : ClOk S.last (S.C (0 + ii)) := (by rw [Nat.zero_add]; exact h.ok ii (by omega))
            obtain ⟨⟨c1, c2, c3, c4⟩, c5, c6, c7, c8⟩ := hc
            have hu := und_iff h (by omega : ii < S.n)
            have hlp := inn_lp S.n ii S.C (by omega) (by omega) (ord_at h (by omega))
            refine round_norm (s0 := jU S) (ii + 1) (jj_13 ..) (ob_cons rfl (ob_cons rfl (ob_cons rfl (ob_cons rfl (ob_cons rfl (ob_cons ?_ (ob_cons rfl (ob_cons rfl (ob_cons rfl (ob_cons rfl (ob_cons rfl (ob_cons (Nat.le_refl _) (ob_cons (.inl ⟨rfl, rfl⟩) (ob_cons (fun _ => rfl) (ob_cons rfl (ob_cons (Nat.le_refl _) (ob_cons (.inl ⟨rfl, rfl⟩) (ob_cons ?_ (ob_cons ?_ (ob_cons ?_ (ob_cons h15 (ob_cons ?_ (ob_cons h10 (ob_cons ?_ (ob_cons ?_ (ob_cons ?_ (ob_cons h14 (ob_cons h10 (ob_cons h2 (ob_cons ?_ (ob_cons ?_ (ob_cons ?_ (ob_cons h1 ob_nil))))))))))))))))))))))))))))))))) (by show ii + 1 ≤ S.n; omega) (by show S.n - (ii + 1) < S.n - ii; omega)
            ·
              first | exact wrap_nat64 _ (by simp; omega) (by simp; omega) | exact hlp | (first | exact prev_fr h (by omega) (by omega) (by omega) | exact prev_ix (by omega) (by omega) (by omega) | exact prev_in (by omega) (by omega) (by omega)) | (rw [hu]; simp; done) | (simp only [bne_iff_ne, bne_eq_false_iff_eq, beq_iff_eq, beq_eq_false_iff_ne, decide_eq_true_eq, decide_eq_false_iff_not, Bool.not_eq_true', Bool.not_eq_false', ne_eq, gt_iff_lt, ge_iff_le, Int.not_lt, Int.not_le, Decidable.not_not] at *; omega) | (simp only [bne_iff_ne, bne_eq_false_iff_eq, beq_iff_eq, beq_eq_false_iff_ne, decide_eq_true_eq, decide_eq_false_iff_not, Bool.not_eq_true', Bool.not_eq_false', ne_eq, gt_iff_lt, ge_iff_le, Int.not_lt, Int.not_le, Decidable.not_not] at *; simp_all; done) | (simp_all; omega) | (simp; omega)
            ·
              first | (apply Nat.ble_eq_true_of_le; omega) | (simp [Nat.blt_eq]; omega) | exact hlp | (first | exact prev_fr h (by omega) (by omega) (by omega) | exact prev_ix (by omega) (by omega) (by omega) | exact prev_in (by omega) (by omega) (by omega)) | (rw [hu]; simp; done) | (simp only [bne_iff_ne, bne_eq_false_iff_eq, beq_iff_eq, beq_eq_false_iff_ne, decide_eq_true_eq, decide_eq_false_iff_not, Bool.not_eq_true', Bool.not_eq_false', ne_eq, gt_iff_lt, ge_iff_le, Int.not_lt, Int.not_le, Decidable.not_not] at *; omega) | (simp only [bne_iff_ne, bne_eq_false_iff_eq, beq_iff_eq, beq_eq_false_iff_ne, decide_eq_true_eq, decide_eq_false_iff_not, Bool.not_eq_true', Bool.not_eq_false', ne_eq, gt_iff_lt, ge_iff_le, Int.not_lt, Int.not_le, Decidable.not_not] at *; simp_all; done) | (simp_all; omega) | (simp; omega)
            ·
              first | trivial | exact hlp | (first | exact prev_fr h (by omega) (by omega) (by omega) | exact prev_ix (by omega) (by omega) (by omega) | exact prev_in (by omega) (by omega) (by omega)) | (rw [hu]; simp; done) | (simp only [bne_iff_ne, bne_eq_false_iff_eq, beq_iff_eq, beq_eq_false_iff_ne, decide_eq_true_eq, decide_eq_false_iff_not, Bool.not_eq_true', Bool.not_eq_false', ne_eq, gt_iff_lt, ge_iff_le, Int.not_lt, Int.not_le, Decidable.not_not] at *; omega) | (simp only [bne_iff_ne, bne_eq_false_iff_eq, beq_iff_eq, beq_eq_false_iff_ne, decide_eq_true_eq, decide_eq_false_iff_not, Bool.not_eq_true', Bool.not_eq_false', ne_eq, gt_iff_lt, ge_iff_le, Int.not_lt, Int.not_le, Decidable.not_not] at *; simp_all; done) | (simp_all; omega) | (simp; omega)
            ·
              first | (apply Nat.ble_eq_true_of_le; omega) | (simp [Nat.blt_eq]; omega) | exact hlp | (first | exact prev_fr h (by omega) (by omega) (by omega) | exact prev_ix (by omega) (by omega) (by omega) | exact prev_in (by omega) (by omega) (by omega)) | (rw [hu]; simp; done) | (simp only [bne_iff_ne, bne_eq_false_iff_eq, beq_iff_eq, beq_eq_false_iff_ne, decide_eq_true_eq, decide_eq_false_iff_not, Bool.not_eq_true', Bool.not_eq_false', ne_eq, gt_iff_lt, ge_iff_le, Int.not_lt, Int.not_le, Decidable.not_not] at *; omega) | (simp only [bne_iff_ne, bne_eq_false_iff_eq, beq_iff_eq, beq_eq_false_iff_ne, decide_eq_true_eq, decide_eq_false_iff_not, Bool.not_eq_true', Bool.not_eq_false', ne_eq, gt_iff_lt, ge_iff_le, Int.not_lt, Int.not_le, Decidable.not_not] at *; simp_all; done) | (simp_all; omega) | (simp; omega)
            ·
              first | (apply Nat.ble_eq_true_of_le; omega) | (simp [Nat.blt_eq]; omega) | exact hlp | (first | exact prev_fr h (by omega) (by omega) (by omega) | exact prev_ix (by omega) (by omega) (by omega) | exact prev_in (by omega) (by omega) (by omega)) | (rw [hu]; simp; done) | (simp only [bne_iff_ne, bne_eq_false_iff_eq, beq_iff_eq, beq_eq_false_iff_ne, decide_eq_true_eq, decide_eq_false_iff_not, Bool.not_eq_true', Bool.not_eq_false', ne_eq, gt_iff_lt, ge_iff_le, Int.not_lt, Int.not_le, Decidable.not_not] at *; omega) | (simp only [bne_iff_ne, bne_eq_false_iff_eq, beq_iff_eq, beq_eq_false_iff_ne, decide_eq_true_eq, decide_eq_false_iff_not, Bool.not_eq_true', Bool.not_eq_false', ne_eq, gt_iff_lt, ge_iff_le, Int.not_lt, Int.not_le, Decidable.not_not] at *; simp_all; done) | (simp_all; omega) | (simp; omega)
            ·
              first | (apply Nat.ble_eq_true_of_le; omega) | (simp [Nat.blt_eq]; omega) | exact hlp | (first | exact prev_fr h (by omega) (by omega) (by omega) | exact prev_ix (by omega) (by omega) (by omega) | exact prev_in (by omega) (by omega) (by omega)) | (rw [hu]; simp; done) | (simp only [bne_iff_ne, bne_eq_false_iff_eq, beq_iff_eq, beq_eq_false_iff_ne, decide_eq_true_eq, decide_eq_false_iff_not, Bool.not_eq_true', Bool.not_eq_false', ne_eq, gt_iff_lt, ge_iff_le, Int.not_lt, Int.not_le, Decidable.not_not] at *; omega) | (simp only [bne_iff_ne, bne_eq_false_iff_eq, beq_iff_eq, beq_eq_false_iff_ne, decide_eq_true_eq, decide_eq_false_iff_not, Bool.not_eq_true', Bool.not_eq_false', ne_eq, gt_iff_lt, ge_iff_le, Int.not_lt, Int.not_le, Decidable.not_not] at *; simp_all; done) | (simp_all; omega) | (simp; omega)
            ·
              first | (apply Nat.ble_eq_true_of_le; omega) | (simp [Nat.blt_eq]; omega) | exact hlp | (first | exact prev_fr h (by omega) (by omega) (by omega) | exact prev_ix (by omega) (by omega) (by omega) | exact prev_in (by omega) (by omega) (by omega)) | (rw [hu]; simp; done) | (simp only [bne_iff_ne, bne_eq_false_iff_eq, beq_iff_eq, beq_eq_false_iff_ne, decide_eq_true_eq, decide_eq_false_iff_not, Bool.not_eq_true', Bool.not_eq_false', ne_eq, gt_iff_lt, ge_iff_le, Int.not_lt, Int.not_le, Decidable.not_not] at *; omega) | (simp only [bne_iff_ne, bne_eq_false_iff_eq, beq_iff_eq, beq_eq_false_iff_ne, decide_eq_true_eq, decide_eq_false_iff_not, Bool.not_eq_true', Bool.not_eq_false', ne_eq, gt_iff_lt, ge_iff_le, Int.not_lt, Int.not_le, Decidable.not_not] at *; simp_all; done) | (simp_all; omega) | (simp; omega)
            ·
              first | (apply Nat.ble_eq_true_of_le; omega) | (simp [Nat.blt_eq]; omega) | exact hlp | (first | exact prev_fr h (by omega) (by omega) (by omega) | exact prev_ix (by omega) (by omega) (by omega) | exact prev_in (by omega) (by omega) (by omega)) | (rw [hu]; simp; done) | (simp only [bne_iff_ne, bne_eq_false_iff_eq, beq_iff_eq, beq_eq_false_iff_ne, decide_eq_true_eq, decide_eq_false_iff_not, Bool.not_eq_true', Bool.not_eq_false', ne_eq, gt_iff_lt, ge_iff_le, Int.not_lt, Int.not_le, Decidable.not_not] at *; omega) | (simp only [bne_iff_ne, bne_eq_false_iff_eq, beq_iff_eq, beq_eq_false_iff_ne, decide_eq_true_eq, decide_eq_false_iff_not, Bool.not_eq_true', Bool.not_eq_false', ne_eq, gt_iff_lt, ge_iff_le, Int.not_lt, Int.not_le, Decidable.not_not] at *; simp_all; done) | (simp_all; omega) | (simp; omega)
            ·
              first | (apply Nat.ble_eq_true_of_le; omega) | (simp [Nat.blt_eq]; omega) | exact hlp | (first | exact prev_fr h (by omega) (by omega) (by omega) | exact prev_ix (by omega) (by omega) (by omega) | exact prev_in (by omega) (by omega) (by omega)) | (rw [hu]; simp; done) | (simp only [bne_iff_ne, bne_eq_false_iff_eq, beq_iff_eq, beq_eq_false_iff_ne, decide_eq_true_eq, decide_eq_false_iff_not, Bool.not_eq_true', Bool.not_eq_false', ne_eq, gt_iff_lt, ge_iff_le, Int.not_lt, Int.not_le, Decidable.not_not] at *; omega) | (simp only [bne_iff_ne, bne_eq_false_iff_eq, beq_iff_eq, beq_eq_false_iff_ne, decide_eq_true_eq, decide_eq_false_iff_not, Bool.not_eq_true', Bool.not_eq_false', ne_eq, gt_iff_lt, ge_iff_le, Int.not_lt, Int.not_le, Decidable.not_not] at *; simp_all; done) | (simp_all; omega) | (simp; omega)
            ·
              first | (apply Nat.ble_eq_true_of_le; omega) | (simp [Nat.blt_eq]; omega) | exact hlp | (first | exact prev_fr h (by omega) (by omega) (by omega) | exact prev_ix (by omega) (by omega) (by omega) | exact prev_in (by omega) (by omega) (by omega)) | (rw [hu]; simp; done) | (simp only [bne_iff_ne, bne_eq_false_iff_eq, beq_iff_eq, beq_eq_false_iff_ne, decide_eq_true_eq, decide_eq_false_iff_not, Bool.not_eq_true', Bool.not_eq_false', ne_eq, gt_iff_lt, ge_iff_le, Int.not_lt, Int.not_le, Decidable.not_not] at *; omega) | (simp only [bne_iff_ne, bne_eq_false_iff_eq, beq_iff_eq, beq_eq_false_iff_ne, decide_eq_true_eq, decide_eq_false_iff_not, Bool.not_eq_true', Bool.not_eq_false', ne_eq, gt_iff_lt, ge_iff_le, Int.not_lt, Int.not_le, Decidable.not_not] at *; simp_all; done) | (simp_all; omega) | (simp; omega)
            ·
              first | (apply Nat.ble_eq_true_of_le; omega) | (simp [Nat.blt_eq]; omega) | exact hlp | (first | exact prev_fr h (by omega) (by omega) (by omega) | exact prev_ix (by omega) (by omega) (by omega) | exact prev_in (by omega) (by omega) (by omega)) | (rw [hu]; simp; done) | (simp only [bne_iff_ne, bne_eq_false_iff_eq, beq_iff_eq, beq_eq_false_iff_ne, decide_eq_true_eq, decide_eq_false_iff_not, Bool.not_eq_true', Bool.not_eq_false', ne_eq, gt_iff_lt, ge_iff_le, Int.not_lt, Int.not_le, Decidable.not_not] at *; omega) | (simp only [bne_iff_ne, bne_eq_false_iff_eq, beq_iff_eq, beq_eq_false_iff_ne, decide_eq_true_eq, decide_eq_false_iff_not, Bool.not_eq_true', Bool.not_eq_false', ne_eq, gt_iff_lt, ge_iff_le, Int.not_lt, Int.not_le, Decidable.not_not] at *; simp_all; done) | (simp_all; omega) | (simp; omega)
          | false =>
            have hc : ClOk S.last (S.C (0 + ii)) := (by rw [Nat.zero_add]; exact h.ok ii (by omega))
            obtain ⟨⟨c1, c2, c3, c4⟩, c5, c6, c7, c8⟩ := hc
            have hu := und_iff h (by omega : ii < S.n)
            have hlp := inn_lp S.n ii S.C (by omega) (by omega) (ord_at h (by omega))
            refine round_norm (s0 := jU S) (ii + 1) (jj_14 ..) (ob_cons rfl (ob_cons rfl (ob_cons rfl (ob_cons rfl (ob_cons rfl (ob_cons ?_ (ob_cons rfl (ob_cons rfl (ob_cons rfl (ob_cons rfl (ob_cons rfl (ob_cons (Nat.le_refl _) (ob_cons (.inl ⟨rfl, rfl⟩) (ob_cons (fun _ => rfl) (ob_cons rfl (ob_cons (Nat.le_refl _) (ob_cons (.inl ⟨rfl, rfl⟩) (ob_cons ?_ (ob_cons ?_ (ob_cons ?_ (ob_cons h15 (ob_cons ?_ (ob_cons h10 (ob_cons ?_ (ob_cons ?_ (ob_cons ?_ (ob_cons h14 (ob_cons h10 (ob_cons h2 (ob_cons ?_ (ob_cons ?_ (ob_cons ?_ (ob_cons h1 ob_nil))))))))))))))))))))))))))))))))) (by show ii + 1 ≤ S.n; omega) (by show S.n - (ii + 1) < S.n - ii; omega)
            ·
              first | exact wrap_nat64 _ (by simp; omega) (by simp; omega) | exact hlp | (first | exact prev_fr h (by omega) (by omega) (by omega) | exact prev_ix (by omega) (by omega) (by omega) | exact prev_in (by omega) (by omega) (by omega)) | (rw [hu]; simp; done) | (simp only [bne_iff_ne, bne_eq_false_iff_eq, beq_iff_eq, beq_eq_false_iff_ne, decide_eq_true_eq, decide_eq_false_iff_not, Bool.not_eq_true', Bool.not_eq_false', ne_eq, gt_iff_lt, ge_iff_le, Int.not_lt, Int.not_le, Decidable.not_not] at *; omega) | (simp only [bne_iff_ne, bne_eq_false_iff_eq, beq_iff_eq, beq_eq_false_iff_ne, decide_eq_true_eq, decide_eq_false_iff_not, Bool.not_eq_true', Bool.not_eq_false', ne_eq, gt_iff_lt, ge_iff_le, Int.not_lt, Int.not_le, Decidable.not_not] at *; simp_all; done) | (simp_all; omega) | (simp; omega)
            ·
              first | (apply Nat.ble_eq_true_of_le; omega) | (simp [Nat.blt_eq]; omega) | exact hlp | (first | exact prev_fr h (by omega) (by omega) (by omega) | exact prev_ix (by omega) (by omega) (by omega) | exact prev_in (by omega) (by omega) (by omega)) | (rw [hu]; simp; done) | (simp only [bne_iff_ne, bne_eq_false_iff_eq, beq_iff_eq, beq_eq_false_iff_ne, decide_eq_true_eq, decide_eq_false_iff_not, Bool.not_eq_true', Bool.not_eq_false', ne_eq, gt_iff_lt, ge_iff_le, Int.not_lt, Int.not_le, Decidable.not_not] at *; omega) | (simp only [bne_iff_ne, bne_eq_false_iff_eq, beq_iff_eq, beq_eq_false_iff_ne, decide_eq_true_eq, decide_eq_false_iff_not, Bool.not_eq_true', Bool.not_eq_false', ne_eq, gt_iff_lt, ge_iff_le, Int.not_lt, Int.not_le, Decidable.not_not] at *; simp_all; done) | (simp_all; omega) | (simp; omega)
            ·
              first | trivial | exact hlp | (first | exact prev_fr h (by omega) (by omega) (by omega) | exact prev_ix (by omega) (by omega) (by omega) | exact prev_in (by omega) (by omega) (by omega)) | (rw [hu]; simp; done) | (simp only [bne_iff_ne, bne_eq_false_iff_eq, beq_iff_eq, beq_eq_false_iff_ne, decide_eq_true_eq, decide_eq_false_iff_not, Bool.not_eq_true', Bool.not_eq_false', ne_eq, gt_iff_lt, ge_iff_le, Int.not_lt, Int.not_le, Decidable.not_not] at *; omega) | (simp only [bne_iff_ne, bne_eq_false_iff_eq, beq_iff_eq, beq_eq_false_iff_ne, decide_eq_true_eq, decide_eq_false_iff_not, Bool.not_eq_true', Bool.not_eq_false', ne_eq, gt_iff_lt, ge_iff_le, Int.not_lt, Int.not_le, Decidable.not_not] at *; simp_all; done) | (simp_all; omega) | (simp; omega)
            ·
              first | (apply Nat.ble_eq_true_of_le; omega) | (simp [Nat.blt_eq]; omega) | exact hlp | (first | exact prev_fr h (by omega) (by omega) (by omega) | exact prev_ix (by omega) (by omega) (by omega) | exact prev_in (by omega) (by omega) (by omega)) | (rw [hu]; simp; done) | (simp only [bne_iff_ne, bne_eq_false_iff_eq, beq_iff_eq, beq_eq_false_iff_ne, decide_eq_true_eq, decide_eq_false_iff_not, Bool.not_eq_true', Bool.not_eq_false', ne_eq, gt_iff_lt, ge_iff_le, Int.not_lt, Int.not_le, Decidable.not_not] at *; omega) | (simp only [bne_iff_ne, bne_eq_false_iff_eq, beq_iff_eq, beq_eq_false_iff_ne, decide_eq_true_eq, decide_eq_false_iff_not, Bool.not_eq_true', Bool.not_eq_false', ne_eq, gt_iff_lt, ge_iff_le, Int.not_lt, Int.not_le, Decidable.not_not] at *; simp_all; done) | (simp_all; omega) | (simp; omega)
            ·
              first | (apply Nat.ble_eq_true_of_le; omega) | (simp [Nat.blt_eq]; omega) | exact hlp | (first | exact prev_fr h (by omega) (by omega) (by omega) | exact prev_ix (by omega) (by omega) (by omega) | exact prev_in (by omega) (by omega) (by omega)) | (rw [hu]; simp; done) | (simp only [bne_iff_ne, bne_eq_false_iff_eq, beq_iff_eq, beq_eq_false_iff_ne, decide_eq_true_eq, decide_eq_false_iff_not, Bool.not_eq_true', Bool.not_eq_false', ne_eq, gt_iff_lt, ge_iff_le, Int.not_lt, Int.not_le, Decidable.not_not] at *; omega) | (simp only [bne_iff_ne, bne_eq_false_iff_eq, beq_iff_eq, beq_eq_false_iff_ne, decide_eq_true_eq, decide_eq_false_iff_not, Bool.not_eq_true', Bool.not_eq_false', ne_eq, gt_iff_lt, ge_iff_le, Int.not_lt, Int.not_le, Decidable.not_not] at *; simp_all; done) | (simp_all; omega) | (simp; omega)
            ·
              first | (apply Nat.ble_eq_true_of_le; omega) | (simp [Nat.blt_eq]; omega) | exact hlp | (first | exact prev_fr h (by omega) (by omega) (by omega) | exact prev_ix (by omega) (by omega) (by omega) | exact prev_in (by omega) (by omega) (by omega)) | (rw [hu]; simp; done) | (simp only [bne_iff_ne, bne_eq_false_iff_eq, beq_iff_eq, beq_eq_false_iff_ne, decide_eq_true_eq, decide_eq_false_iff_not, Bool.not_eq_true', Bool.not_eq_false', ne_eq, gt_iff_lt, ge_iff_le, Int.not_lt, Int.not_le, Decidable.not_not] at *; omega) | (simp only [bne_iff_ne, bne_eq_false_iff_eq, beq_iff_eq, beq_eq_false_iff_ne, decide_eq_true_eq, decide_eq_false_iff_not, Bool.not_eq_true', Bool.not_eq_false', ne_eq, gt_iff_lt, ge_iff_le, Int.not_lt, Int.not_le, Decidable.not_not] at *; simp_all; done) | (simp_all; omega) | (simp; omega)
            ·
              first | (apply Nat.ble_eq_true_of_le; omega) | (simp [Nat.blt_eq]; omega) | exact hlp | (first | exact prev_fr h (by omega) (by omega) (by omega) | exact prev_ix (by omega) (by omega) (by omega) | exact prev_in (by omega) (by omega) (by omega)) | (rw [hu]; simp; done) | (simp only [bne_iff_ne, bne_eq_false_iff_eq, beq_iff_eq, beq_eq_false_iff_ne, decide_eq_true_eq, decide_eq_false_iff_not, Bool.not_eq_true', Bool.not_eq_false', ne_eq, gt_iff_lt, ge_iff_le, Int.not_lt, Int.not_le, Decidable.not_not] at *; omega) | (simp only [bne_iff_ne, bne_eq_false_iff_eq, beq_iff_eq, beq_eq_false_iff_ne, decide_eq_true_eq, decide_eq_false_iff_not, Bool.not_eq_true', Bool.not_eq_false', ne_eq, gt_iff_lt, ge_iff_le, Int.not_lt, Int.not_le, Decidable.not_not] at *; simp_all; done) | (simp_all; omega) | (simp; omega)
            ·
              first | (apply Nat.ble_eq_true_of_le; omega) | (simp [Nat.blt_eq]; omega) | exact hlp | (first | exact prev_fr h (by omega) (by omega) (by omega) | exact prev_ix (by omega) (by omega) (by omega) | exact prev_in (by omega) (by omega) (by omega)) | (rw [hu]; simp; done) | (simp only [bne_iff_ne, bne_eq_false_iff_eq, beq_iff_eq, beq_eq_false_iff_ne, decide_eq_true_eq, decide_eq_false_iff_not, Bool.not_eq_true', Bool.not_eq_false', ne_eq, gt_iff_lt, ge_iff_le, Int.not_lt, Int.not_le, Decidable.not_not] at *; omega) | (simp only [bne_iff_ne, bne_eq_false_iff_eq, beq_iff_eq, beq_eq_false_iff_ne, decide_eq_true_eq, decide_eq_false_iff_not, Bool.not_eq_true', Bool.not_eq_false', ne_eq, gt_iff_lt, ge_iff_le, Int.not_lt, Int.not_le, Decidable.not_not] at *; simp_all; done) | (simp_all; omega) | (simp; omega)
            ·
              first | (apply Nat.ble_eq_true_of_le; omega) | (simp [Nat.blt_eq]; omega) | exact hlp | (first | exact prev_fr h (by omega) (by omega) (by omega) | exact prev_ix (by omega) (by omega) (by omega) | exact prev_in (by omega) (by omega) (by omega)) | (rw [hu]; simp; done) | (simp only [bne_iff_ne, bne_eq_false_iff_eq, beq_iff_eq, beq_eq_false_iff_ne, decide_eq_true_eq, decide_eq_false_iff_not, Bool.not_eq_true', Bool.not_eq_false', ne_eq, gt_iff_lt, ge_iff_le, Int.not_lt, Int.not_le, Decidable.not_not] at *; omega) | (simp only [bne_iff_ne, bne_eq_false_iff_eq, beq_iff_eq, beq_eq_false_iff_ne, decide_eq_true_eq, decide_eq_false_iff_not, Bool.not_eq_true', Bool.not_eq_false', ne_eq, gt_iff_lt, ge_iff_le, Int.not_lt, Int.not_le, Decidable.not_not] at *; simp_all; done) | (simp_all; omega) | (simp; omega)
            ·
              first | (apply Nat.ble_eq_true_of_le; omega) | (simp [Nat.blt_eq]; omega) | exact hlp | (first | exact prev_fr h (by omega) (by omega) (by omega) | exact prev_ix (by omega) (by omega) (by omega) | exact prev_in (by omega) (by omega) (by omega)) | (rw [hu]; simp; done) | (simp only [bne_iff_ne, bne_eq_false_iff_eq, beq_iff_eq, beq_eq_false_iff_ne, decide_eq_true_eq, decide_eq_false_iff_not, Bool.not_eq_true', Bool.not_eq_false', ne_eq, gt_iff_lt, ge_iff_le, Int.not_lt, Int.not_le, Decidable.not_not] at *; omega) | (simp only [bne_iff_ne, bne_eq_false_iff_eq, beq_iff_eq, beq_eq_false_iff_ne, decide_eq_true_eq, decide_eq_false_iff_not, Bool.not_eq_true', Bool.not_eq_false', ne_eq, gt_iff_lt, ge_iff_le, Int.not_lt, Int.not_le, Decidable.not_not] at *; simp_all; done) | (simp_all; omega) | (simp; omega)
            ·
              first | (apply Nat.ble_eq_true_of_le; omega) | (simp [Nat.blt_eq]; omega) | exact hlp | (first | exact prev_fr h (by omega) (by omega) (by omega) | exact prev_ix (by omega) (by omega) (by omega) | exact prev_in (by omega) (by omega) (by omega)) | (rw [hu]; simp; done) | (simp only [bne_iff_ne, bne_eq_false_iff_eq, beq_iff_eq, beq_eq_false_iff_ne, decide_eq_true_eq, decide_eq_false_iff_not, Bool.not_eq_true', Bool.not_eq_false', ne_eq, gt_iff_lt, ge_iff_le, Int.not_lt, Int.not_le, Decidable.not_not] at *; omega) | (simp only [bne_iff_ne, bne_eq_false_iff_eq, beq_iff_eq, beq_eq_false_iff_ne, decide_eq_true_eq, decide_eq_false_iff_not, Bool.not_eq_true', Bool.not_eq_false', ne_eq, gt_iff_lt, ge_iff_le, Int.not_lt, Int.not_le, Decidable.not_not] at *; simp_all; done) | (simp_all; omega) | (simp; omega)
        | false =>
          have g14 := of_decide_eq_false h14
          try simp only [Int.ofNat_eq_natCast, ge_iff_le, gt_iff_lt, Int.not_lt, Int.not_le] at g14
          cases h16 : ((S.C (0 + ii)).5 == 1) with
          | true =>
            have hc : ClOk S.last (S.C (0 + ii)) := (by rw [Nat.zero_add]; exact h.ok ii (by omega))
            obtain ⟨⟨c1, c2, c3, c4⟩, c5, c6, c7, c8⟩ := hc
            have hu := und_iff h (by omega : ii < S.n)
            have hlp := inn_lp S.n ii S.C (by omega) (by omega) (ord_at h (by omega))
            refine round_norm (s0 := jU S) (ii + 1) (jj_15 ..) (ob_cons rfl (ob_cons rfl (ob_cons rfl (ob_cons rfl (ob_cons rfl (ob_cons ?_ (ob_cons rfl (ob_cons rfl (ob_cons rfl (ob_cons rfl (ob_cons rfl (ob_cons (Nat.le_refl _) (ob_cons (.inl ⟨rfl, rfl⟩) (ob_cons (fun _ => rfl) (ob_cons rfl (ob_cons (Nat.le_refl _) (ob_cons (.inl ⟨rfl, rfl⟩) (ob_cons ?_ (ob_cons ?_ (ob_cons ?_ (ob_cons h16 (ob_cons ?_ (ob_cons h10 (ob_cons h14 (ob_cons h10 (ob_cons h2 (ob_cons ?_ (ob_cons ?_ (ob_cons ?_ (ob_cons h1 ob_nil)))))))))))))))))))))))))))))) (by show ii + 1 ≤ S.n; omega) (by show S.n - (ii + 1) < S.n - ii; omega)
            ·
              first | exact wrap_nat64 _ (by simp; omega) (by simp; omega) | exact hlp | (first | exact prev_fr h (by omega) (by omega) (by omega) | exact prev_ix (by omega) (by omega) (by omega) | exact prev_in (by omega) (by omega) (by omega)) | (rw [hu]; simp; done) | (simp only [bne_iff_ne, bne_eq_false_iff_eq, beq_iff_eq, beq_eq_false_iff_ne, decide_eq_true_eq, decide_eq_false_iff_not, Bool.not_eq_true', Bool.not_eq_false', ne_eq, gt_iff_lt, ge_iff_le, Int.not_lt, Int.not_le, Decidable.not_not] at *; omega) | (simp only [bne_iff_ne, bne_eq_false_iff_eq, beq_iff_eq, beq_eq_false_iff_ne, decide_eq_true_eq, decide_eq_false_iff_not, Bool.not_eq_true', Bool.not_eq_false', ne_eq, gt_iff_lt, ge_iff_le, Int.not_lt, Int.not_le, Decidable.not_not] at *; simp_all; done) | (simp_all; omega) | (simp; omega)
            ·
              first | (apply Nat.ble_eq_true_of_le; omega) | (simp [Nat.blt_eq]; omega) | exact hlp | (first | exact prev_fr h (by omega) (by omega) (by omega) | exact prev_ix (by omega) (by omega) (by omega) | exact prev_in (by omega) (by omega) (by omega)) | (rw [hu]; simp; done) | (simp only [bne_iff_ne, bne_eq_false_iff_eq, beq_iff_eq, beq_eq_false_iff_ne, decide_eq_true_eq, decide_eq_false_iff_not, Bool.not_eq_true', Bool.not_eq_false', ne_eq, gt_iff_lt, ge_iff_le, Int.not_lt, Int.not_le, Decidable.not_not] at *; omega) | (simp only [bne_iff_ne, bne_eq_false_iff_eq, beq_iff_eq, beq_eq_false_iff_ne, decide_eq_true_eq, decide_eq_false_iff_not, Bool.not_eq_true', Bool.not_eq_false', ne_eq, gt_iff_lt, ge_iff_le, Int.not_lt, Int.not_le, Decidable.not_not] at *; simp_all; done) | (simp_all; omega) | (simp; omega)
            ·
              first | trivial | exact hlp | (first | exact prev_fr h (by omega) (by omega) (by omega) | exact prev_ix (by omega) (by omega) (by omega) | exact prev_in (by omega) (by omega) (by omega)) | (rw [hu]; simp; done) | (simp only [bne_iff_ne, bne_eq_false_iff_eq, beq_iff_eq, beq_eq_false_iff_ne, decide_eq_true_eq, decide_eq_false_iff_not, Bool.not_eq_true', Bool.not_eq_false', ne_eq, gt_iff_lt, ge_iff_le, Int.not_lt, Int.not_le, Decidable.not_not] at *; omega) | (simp only [bne_iff_ne, bne_eq_false_iff_eq, beq_iff_eq, beq_eq_false_iff_ne, decide_eq_true_eq, decide_eq_false_iff_not, Bool.not_eq_true', Bool.not_eq_false', ne_eq, gt_iff_lt, ge_iff_le, Int.not_lt, Int.not_le, Decidable.not_not] at *; simp_all; done) | (simp_all; omega) | (simp; omega)
            ·
              first | (apply Nat.ble_eq_true_of_le; omega) | (simp [Nat.blt_eq]; omega) | exact hlp | (first | exact prev_fr h (by omega) (by omega) (by omega) | exact prev_ix (by omega) (by omega) (by omega) | exact prev_in (by omega) (by omega) (by omega)) | (rw [hu]; simp; done) | (simp only [bne_iff_ne, bne_eq_false_iff_eq, beq_iff_eq, beq_eq_false_iff_ne, decide_eq_true_eq, decide_eq_false_iff_not, Bool.not_eq_true', Bool.not_eq_false', ne_eq, gt_iff_lt, ge_iff_le, Int.not_lt, Int.not_le, Decidable.not_not] at *; omega) | (simp only [bne_iff_ne, bne_eq_false_iff_eq, beq_iff_eq, beq_eq_false_iff_ne, decide_eq_true_eq, decide_eq_false_iff_not, Bool.not_eq_true', Bool.not_eq_false', ne_eq, gt_iff_lt, ge_iff_le, Int.not_lt, Int.not_le, Decidable.not_not] at *; simp_all; done) | (simp_all; omega) | (simp; omega)
            ·
              first | (apply Nat.ble_eq_true_of_le; omega) | (simp [Nat.blt_eq]; omega) | exact hlp | (first | exact prev_fr h (by omega) (by omega) (by omega) | exact prev_ix (by omega) (by omega) (by omega) | exact prev_in (by omega) (by omega) (by omega)) | (rw [hu]; simp; done) | (simp only [bne_iff_ne, bne_eq_false_iff_eq, beq_iff_eq, beq_eq_false_iff_ne, decide_eq_true_eq, decide_eq_false_iff_not, Bool.not_eq_true', Bool.not_eq_false', ne_eq, gt_iff_lt, ge_iff_le, Int.not_lt, Int.not_le, Decidable.not_not] at *; omega) | (simp only [bne_iff_ne, bne_eq_false_iff_eq, beq_iff_eq, beq_eq_false_iff_ne, decide_eq_true_eq, decide_eq_false_iff_not, Bool.not_eq_true', Bool.not_eq_false', ne_eq, gt_iff_lt, ge_iff_le, Int.not_lt, Int.not_le, Decidable.not_not] at *; simp_all; done) | (simp_all; omega) | (simp; omega)
            ·
              first | (apply Nat.ble_eq_true_of_le; omega) | (simp [Nat.blt_eq]; omega) | exact hlp | (first | exact prev_fr h (by omega) (by omega) (by omega) | exact prev_ix (by omega) (by omega) (by omega) | exact prev_in (by omega) (by omega) (by omega)) | (rw [hu]; simp; done) | (simp only [bne_iff_ne, bne_eq_false_iff_eq, beq_iff_eq, beq_eq_false_iff_ne, decide_eq_true_eq, decide_eq_false_iff_not, Bool.not_eq_true', Bool.not_eq_false', ne_eq, gt_iff_lt, ge_iff_le, Int.not_lt, Int.not_le, Decidable.not_not] at *; omega) | (simp only [bne_iff_ne, bne_eq_false_iff_eq, beq_iff_eq, beq_eq_false_iff_ne, decide_eq_true_eq, decide_eq_false_iff_not, Bool.not_eq_true', Bool.not_eq_false', ne_eq, gt_iff_lt, ge_iff_le, Int.not_lt, Int.not_le, Decidable.not_not] at *; simp_all; done) | (simp_all; omega) | (simp; omega)
            ·
              first | (apply Nat.ble_eq_true_of_le; omega) | (simp [Nat.blt_eq]; omega) | exact hlp | (first | exact prev_fr h (by omega) (by omega) (by omega) | exact prev_ix (by omega) (by omega) (by omega) | exact prev_in (by omega) (by omega) (by omega)) | (rw [hu]; simp; done) | (simp only [bne_iff_ne, bne_eq_false_iff_eq, beq_iff_eq, beq_eq_false_iff_ne, decide_eq_true_eq, decide_eq_false_iff_not, Bool.not_eq_true', Bool.not_eq_false', ne_eq, gt_iff_lt, ge_iff_le, Int.not_lt, Int.not_le, Decidable.not_not] at *; omega) | (simp only [bne_iff_ne, bne_eq_false_iff_eq, beq_iff_eq, beq_eq_false_iff_ne, decide_eq_true_eq, decide_eq_false_iff_not, Bool.not_eq_true', Bool.not_eq_false', ne_eq, gt_iff_lt, ge_iff_le, Int.not_lt, Int.not_le, Decidable.not_not] at *; simp_all; done) | (simp_all; omega) | (simp; omega)
            ·
              first | (apply Nat.ble_eq_true_of_le; omega) | (simp [Nat.blt_eq]; omega) | exact hlp | (first | exact prev_fr h (by omega) (by omega) (by omega) | exact prev_ix (by omega) (by omega) (by omega) | exact prev_in (by omega) (by omega) (by omega)) | (rw [hu]; simp; done) | (simp only [bne_iff_ne, bne_eq_false_iff_eq, beq_iff_eq, beq_eq_false_iff_ne, decide_eq_true_eq, decide_eq_false_iff_not, Bool.not_eq_true', Bool.not_eq_false', ne_eq, gt_iff_lt, ge_iff_le, Int.not_lt, Int.not_le, Decidable.not_not] at *; omega) | (simp only [bne_iff_ne, bne_eq_false_iff_eq, beq_iff_eq, beq_eq_false_iff_ne, decide_eq_true_eq, decide_eq_false_iff_not, Bool.not_eq_true', Bool.not_eq_false', ne_eq, gt_iff_lt, ge_iff_le, Int.not_lt, Int.not_le, Decidable.not_not] at *; simp_all; done) | (simp_all; omega) | (simp; omega)
          | false =>
            have hc : ClOk S.last (S.C (0 + ii)) := (by rw [Nat.zero_add]; exact h.ok ii (by omega))
            obtain ⟨⟨c1, c2, c3, c4⟩, c5, c6, c7, c8⟩ := hc
            have hu := und_iff h (by omega : ii < S.n)
            have hlp := inn_lp S.n ii S.C (by omega) (by omega) (ord_at h (by omega))
            refine round_norm (s0 := jU S) (ii + 1) (jj_16 ..) (ob_cons rfl (ob_cons rfl (ob_cons rfl (ob_cons rfl (ob_cons rfl (ob_cons ?_ (ob_cons rfl (ob_cons rfl (ob_cons rfl (ob_cons rfl (ob_cons rfl (ob_cons (Nat.le_refl _) (ob_cons (.inl ⟨rfl, rfl⟩) (ob_cons (fun _ => rfl) (ob_cons rfl (ob_cons (Nat.le_refl _) (ob_cons (.inl ⟨rfl, rfl⟩) (ob_cons ?_ (ob_cons ?_ (ob_cons ?_ (ob_cons h16 (ob_cons ?_ (ob_cons h10 (ob_cons h14 (ob_cons h10 (ob_cons h2 (ob_cons ?_ (ob_cons ?_ (ob_cons ?_ (ob_cons h1 ob_nil)))))))))))))))))))))))))))))) (by show ii + 1 ≤ S.n; omega) (by show S.n - (ii + 1) < S.n - ii; omega)
            ·
              first | exact wrap_nat64 _ (by simp; omega) (by simp; omega) | exact hlp | (first | exact prev_fr h (by omega) (by omega) (by omega) | exact prev_ix (by omega) (by omega) (by omega) | exact prev_in (by omega) (by omega) (by omega)) | (rw [hu]; simp; done) | (simp only [bne_iff_ne, bne_eq_false_iff_eq, beq_iff_eq, beq_eq_false_iff_ne, decide_eq_true_eq, decide_eq_false_iff_not, Bool.not_eq_true', Bool.not_eq_false', ne_eq, gt_iff_lt, ge_iff_le, Int.not_lt, Int.not_le, Decidable.not_not] at *; omega) | (simp only [bne_iff_ne, bne_eq_false_iff_eq, beq_iff_eq, beq_eq_false_iff_ne, decide_eq_true_eq, decide_eq_false_iff_not, Bool.not_eq_true', Bool.not_eq_false', ne_eq, gt_iff_lt, ge_iff_le, Int.not_lt, Int.not_le, Decidable.not_not] at *; simp_all; done) | (simp_all; omega) | (simp; omega)
            ·
              first | (apply Nat.ble_eq_true_of_le; omega) | (simp [Nat.blt_eq]; omega) | exact hlp | (first | exact prev_fr h (by omega) (by omega) (by omega) | exact prev_ix (by omega) (by omega) (by omega) | exact prev_in (by omega) (by omega) (by omega)) | (rw [hu]; simp; done) | (simp only [bne_iff_ne, bne_eq_false_iff_eq, beq_iff_eq, beq_eq_false_iff_ne, decide_eq_true_eq, decide_eq_false_iff_not, Bool.not_eq_true', Bool.not_eq_false', ne_eq, gt_iff_lt, ge_iff_le, Int.not_lt, Int.not_le, Decidable.not_not] at *; omega) | (simp only [bne_iff_ne, bne_eq_false_iff_eq, beq_iff_eq, beq_eq_false_iff_ne, decide_eq_true_eq, decide_eq_false_iff_not, Bool.not_eq_true', Bool.not_eq_false', ne_eq, gt_iff_lt, ge_iff_le, Int.not_lt, Int.not_le, Decidable.not_not] at *; simp_all; done) | (simp_all; omega) | (simp; omega)
            ·
              first | trivial | exact hlp | (first | exact prev_fr h (by omega) (by omega) (by omega) | exact prev_ix (by omega) (by omega) (by omega) | exact prev_in (by omega) (by omega) (by omega)) | (rw [hu]; simp; done) | (simp only [bne_iff_ne, bne_eq_false_iff_eq, beq_iff_eq, beq_eq_false_iff_ne, decide_eq_true_eq, decide_eq_false_iff_not, Bool.not_eq_true', Bool.not_eq_false', ne_eq, gt_iff_lt, ge_iff_le, Int.not_lt, Int.not_le, Decidable.not_not] at *; omega) | (simp only [bne_iff_ne, bne_eq_false_iff_eq, beq_iff_eq, beq_eq_false_iff_ne, decide_eq_true_eq, decide_eq_false_iff_not, Bool.not_eq_true', Bool.not_eq_false', ne_eq, gt_iff_lt, ge_iff_le, Int.not_lt, Int.not_le, Decidable.not_not] at *; simp_all; done) | (simp_all; omega) | (simp; omega)
            ·
              first | (apply Nat.ble_eq_true_of_le; omega) | (simp [Nat.blt_eq]; omega) | exact hlp | (first | exact prev_fr h (by omega) (by omega) (by omega) | exact prev_ix (by omega) (by omega) (by omega) | exact prev_in (by omega) (by omega) (by omega)) | (rw [hu]; simp; done) | (simp only [bne_iff_ne, bne_eq_false_iff_eq, beq_iff_eq, beq_eq_false_iff_ne, decide_eq_true_eq, decide_eq_false_iff_not, Bool.not_eq_true', Bool.not_eq_false', ne_eq, gt_iff_lt, ge_iff_le, Int.not_lt, Int.not_le, Decidable.not_not] at *; omega) | (simp only [bne_iff_ne, bne_eq_false_iff_eq, beq_iff_eq, beq_eq_false_iff_ne, decide_eq_true_eq, decide_eq_false_iff_not, Bool.not_eq_true', Bool.not_eq_false', ne_eq, gt_iff_lt, ge_iff_le, Int.not_lt, Int.not_le, Decidable.not_not] at *; simp_all; done) | (simp_all; omega) | (simp; omega)
            ·
              first | (apply Nat.ble_eq_true_of_le; omega) | (simp [Nat.blt_eq]; omega) | exact hlp | (first | exact prev_fr h (by omega) (by omega) (by omega) | exact prev_ix (by omega) (by omega) (by omega) | exact prev_in (by omega) (by omega) (by omega)) | (rw [hu]; simp; done) | (simp only [bne_iff_ne, bne_eq_false_iff_eq, beq_iff_eq, beq_eq_false_iff_ne, decide_eq_true_eq, decide_eq_false_iff_not, Bool.not_eq_true', Bool.not_eq_false', ne_eq, gt_iff_lt, ge_iff_le, Int.not_lt, Int.not_le, Decidable.not_not] at *; omega) | (simp only [bne_iff_ne, bne_eq_false_iff_eq, beq_iff_eq, beq_eq_false_iff_ne, decide_eq_true_eq, decide_eq_false_iff_not, Bool.not_eq_true', Bool.not_eq_false', ne_eq, gt_iff_lt, ge_iff_le, Int.not_lt, Int.not_le, Decidable.not_not] at *; simp_all; done) | (simp_all; omega) | (simp; omega)
            ·
              first | (apply Nat.ble_eq_true_of_le; omega) | (simp [Nat.blt_eq]; omega) | exact hlp | (first | exact prev_fr h (by omega) (by omega) (by omega) | exact prev_ix (by omega) (by omega) (by omega) | exact prev_in (by omega) (by omega) (by omega)) | (rw [hu]; simp; done) | (simp only [bne_iff_ne, bne_eq_false_iff_eq, beq_iff_eq, beq_eq_false_iff_ne, decide_eq_true_eq, decide_eq_false_iff_not, Bool.not_eq_true', Bool.not_eq_false', ne_eq, gt_iff_lt, ge_iff_le, Int.not_lt, Int.not_le, Decidable.not_not] at *; omega) | (simp only [bne_iff_ne, bne_eq_false_iff_eq, beq_iff_eq, beq_eq_false_iff_ne, decide_eq_true_eq, decide_eq_false_iff_not, Bool.not_eq_true', Bool.not_eq_false', ne_eq, gt_iff_lt, ge_iff_le, Int.not_lt, Int.not_le, Decidable.not_not] at *; simp_all; done) | (simp_all; omega) | (simp; omega)
            ·
              first | (apply Nat.ble_eq_true_of_le; omega) | (simp [Nat.blt_eq]; omega) | exact hlp | (first | exact prev_fr h (by omega) (by omega) (by omega) | exact prev_ix (by omega) (by omega) (by omega) | exact prev_in (by omega) (by omega) (by omega)) | (rw [hu]; simp; done) | (simp only [bne_iff_ne, bne_eq_false_iff_eq, beq_iff_eq, beq_eq_false_iff_ne, decide_eq_true_eq, decide_eq_false_iff_not, Bool.not_eq_true', Bool.not_eq_false', ne_eq, gt_iff_lt, ge_iff_le, Int.not_lt, Int.not_le, Decidable.not_not] at *; omega) | (simp only [bne_iff_ne, bne_eq_false_iff_eq, beq_iff_eq, beq_eq_false_iff_ne, decide_eq_true_eq, decide_eq_false_iff_not, Bool.not_eq_true', Bool.not_eq_false', ne_eq, gt_iff_lt, ge_iff_le, Int.not_lt, Int.not_le, Decidable.not_not] at *; simp_all; done) | (simp_all; omega) | (simp; omega)
            ·
              first | (apply Nat.ble_eq_true_of_le; omega) | (simp [Nat.blt_eq]; omega) | exact hlp | (first | exact prev_fr h (by omega) (by omega) (by omega) | exact prev_ix (by omega) (by omega) (by omega) | exact prev_in (by omega) (by omega) (by omega)) | (rw [hu]; simp; done) | (simp only [bne_iff_ne, bne_eq_false_iff_eq, beq_iff_eq, beq_eq_false_iff_ne, decide_eq_true_eq, decide_eq_false_iff_not, Bool.not_eq_true', Bool.not_eq_false', ne_eq, gt_iff_lt, ge_iff_le, Int.not_lt, Int.not_le, Decidable.not_not] at *; omega) | (simp only [bne_iff_ne, bne_eq_false_iff_eq, beq_iff_eq, beq_eq_false_iff_ne, decide_eq_true_eq, decide_eq_false_iff_not, Bool.not_eq_true', Bool.not_eq_false', ne_eq, gt_iff_lt, ge_iff_le, Int.not_lt, Int.not_le, Decidable.not_not] at *; simp_all; done) | (simp_all; omega) | (simp; omega)
  | false =>
    have g1 := of_decide_eq_false h1
    try simp only [Int.ofNat_eq_natCast, ge_iff_le, gt_iff_lt, Int.not_lt, Int.not_le] at g1
    refine round_exit (s0 := jU S) (jj_17 ..) (by simp) (ob_cons h1 ob_nil)
end Go.Proofs.Ytnecknppajbcdaa
