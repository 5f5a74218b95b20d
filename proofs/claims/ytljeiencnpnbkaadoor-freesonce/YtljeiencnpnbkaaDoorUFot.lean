/-
  FreesOnce: listed, its loop.
-/
import Derived.Test.YtljeiencnpnbkaaDoorUFotDef
set_option linter.unusedSimpArgs false
set_option linter.unusedVariables false
namespace Go.Proofs.YtljeiencnpnbkaaDoor
open Go.Ev
theorem fotr_1 (S : MS) (k : Nat) (ii : Nat) : roundB EFo 2000 fotL ((fotU S k).hp) [(3, Src.nm 5)] (fotT S k ii) [Hint.b true, Hint.b false] (fotT S k (ii + 1)) =
 some (Ex.norm, [(0 : Nat) = 0,
 (0 : Nat) = 0,
 (0 : Nat) = 0,
 ii + 1 = ii + 1,
 (none : Option Nat) = none,
 hSlot (mget (lsM S ii).M (key 9 (lsT S ii) 2)) = lsT S (ii + 1),
 false = false,
 ii + 1 ≤ ii + 1,
 (LF (lsT S) = fun i j => if i < ii then LF (lsT S) (0 + i) j else rowsOf 1 [AV.sym IntKind.i64 (lsT S ii)] (i - ii) j) ∧ plainSh [CK.int IntKind.i64] = true ∨ ∀ (i : Nat), i < ii + 1 → rowOb [CK.int IntKind.i64] 0 (fun j => if i < ii then LF (lsT S) (0 + i) j else rowsOf 1 [AV.sym IntKind.i64 (lsT S ii)] (i - ii) j) (LF (lsT S) i),
 true = true,
 (1 : Nat) ≤ (1 : Nat),
 tabF tab = tabF tab ∧ plainSh (List.map kindOfV tab) = true ∨ ∀ (i : Nat), i < 1 → rowOb (List.map kindOfV tab) 0 (tabF tab i) (tabF tab i),
 IntKind.i64.wrap ((lsM S ii).st + 1) = (lsM S (ii + 1)).st,
 (1 : Int) = 1,
 (9 : Int) = 9,
 lsT S ii = (lsM S (ii + 1)).L.a,
 (2 : Int) = 2,
 mget (lsM S ii).M (key 9 (lsT S ii) 2) = (lsM S (ii + 1)).L.w,
 mget (lsM S ii).M (key 9 (lsT S ii) 2) = (lsM S (ii + 1)).L.i,
 false = (lsM S (ii + 1)).L.d,
 ∀ (k : List Int), (lsM S ii).M k = (lsM S (ii + 1)).M k,
 TabIs tab (tabF tab),
 0 ≤ mget (lsM S ii).M (key 9 (lsT S ii) 2),
 mget (lsM S ii).M (key 9 (lsT S ii) 2) < 18446744073709551616,
 ((ii + 1) * 8).ble 70368744177664 = true,
 (0 + ii).ble ii = true,
 decide (Int.ofNat ii > 256) = false,
 decide (lsT S ii ≥ 0) = true]) := by kernel_rfl
theorem fotr_2 (S : MS) (k : Nat) (ii : Nat) : roundB EFo 2000 fotL ((fotU S k).hp) [(3, Src.nm 3)] (fotT S k ii) [Hint.b false] (fotX S k ii) =
 some (Ex.exit 0, [(0 : Nat) = 0,
 (0 : Nat) = 0,
 (0 : Nat) = 0,
 ii = ii,
 (none : Option Nat) = none,
 false = false,
 ii ≤ ii,
 LF (lsT S) = LF (lsT S) ∧ plainSh [CK.int IntKind.i64] = true ∨ ∀ (i : Nat), i < ii → rowOb [CK.int IntKind.i64] 0 (LF (lsT S) i) (LF (lsT S) i),
 true = true,
 (1 : Nat) ≤ (1 : Nat),
 tabF tab = tabF tab ∧ plainSh (List.map kindOfV tab) = true ∨ ∀ (i : Nat), i < 1 → rowOb (List.map kindOfV tab) 0 (tabF tab i) (tabF tab i),
 (lsM S ii).st = (lsM S ii).st,
 (lsM S ii).L.c = (lsM S ii).L.c,
 (lsM S ii).L.k = (lsM S ii).L.k,
 (lsM S ii).L.a = (lsM S ii).L.a,
 (lsM S ii).L.f = (lsM S ii).L.f,
 (lsM S ii).L.w = (lsM S ii).L.w,
 (lsM S ii).L.i = (lsM S ii).L.i,
 (lsM S ii).L.d = (lsM S ii).L.d,
 ∀ (k : List Int), (lsM S ii).M k = (lsM S ii).M k,
 decide (lsT S ii ≥ 0) = false]) := by kernel_rfl
theorem foti_1 (S : MS) (k : Nat) : castSt ((fotU S k).hp) [(3, Src.nil 1)] (fotU S k) (fotT S k 0) =
 some ([(0 : Nat) = 0,
 (0 : Nat) = 0,
 (0 : Nat) = 0,
 (0 : Nat) = 0,
 (none : Option Nat) = none,
 hSlot (mget S.M (key 0 0 0)) = lsT S 0,
 (0 : Nat) = 0,
 true = true,
 (1 : Nat) ≤ (1 : Nat),
 tabF tab = tabF tab ∧ plainSh (List.map kindOfV tab) = true ∨ ∀ (i : Nat), i < 1 → rowOb (List.map kindOfV tab) 0 (tabF tab i) (tabF tab i),
 (lsM S 0).st = (lsM S 0).st,
 (1 : Int) = 1,
 (0 : Int) = 0,
 (0 : Int) = 0,
 (0 : Int) = 0,
 (lsM S 0).L.w = (lsM S 0).L.w,
 (lsM S 0).L.i = (lsM S 0).L.i,
 (lsM S 0).L.d = (lsM S 0).L.d,
 ∀ (k : List Int), (lsM S 0).M k = (lsM S 0).M k]) := by kernel_rfl
theorem fot_lp (S : MS) (k : Nat) (hS : U64 S) (hk : k ≤ 60) (hT : ∀ i, i < k → 0 ≤ lsT S i) (hE : lsT S k < 0) : fotLP S k := by
  refine loop_rule EFo_ok (I := Nat) (fun i => fotT S k i) (fun i => k - i) (fun i => i ≤ k) ?_ (fun ii hi => ?_)
  ·
    refine ⟨0, [(3, Src.nil 1)], _, Nat.zero_le _, foti_1 .., (cj ⟨rfl, rfl, rfl, rfl, rfl, (lsT_0 S).symm, rfl, rfl, Nat.le_refl _, .inl ⟨rfl, rfl⟩, rfl, rfl, rfl, rfl, rfl, rfl, rfl, rfl, (fun _ => rfl), trivial⟩)⟩
  have hi : ii ≤ k := hi
  have hu := lsM_u hS ii
  have hr := lsM_u hS ii (key 9 (lsT S ii) 2)
  have hq : (lsT S ii ≥ 0 ∧ ii < k) ∨ (lsT S ii < 0 ∧ k = ii) := by
    by_cases c : ii < k
    · exact .inl ⟨hT ii c, c⟩
    · obtain rfl : k = ii := by omega
      exact .inr ⟨hE, rfl⟩
  have hs0 : ii < k → decide (lsT S ii ≥ 0) = true := fun h => decide_eq_true (hT ii h)
  have hs1 : ii = k → decide (lsT S ii ≥ 0) = false := fun h => decide_eq_false (by rw [h]; omega)
  have hm0 : decide (Int.ofNat ii > 256) = false := decide_eq_false (by simp; omega)
  cases h1 : (decide (lsT S ii ≥ 0)) with
  | true =>
    have g1 := of_decide_eq_true h1
    try simp only [Int.ofNat_eq_natCast, ge_iff_le, gt_iff_lt, Int.not_lt, Int.not_le] at g1
    refine round_norm (s0 := fotU S k) (T := fun i => fotT S k i) (i := ii) (ii + 1) (fotr_1 ..) (cj ⟨rfl, rfl, rfl, rfl, rfl, (by (rw [lsT_s]; done)), rfl, Nat.le_refl _, .inr ls_rows, rfl, Nat.le_refl _, .inl ⟨rfl, rfl⟩, rfl, rfl, rfl, (by (rw [lsM_s]; rfl)), rfl, (by (rw [lsM_s]; rfl)), (by (rw [lsM_s]; rfl)), rfl, (by (rw [lsM_s]; exact fun _ => rfl)), tabIs_self _, hr.1, hr.2, (by (apply Nat.ble_eq_true_of_le; omega)), (by (apply Nat.ble_eq_true_of_le; omega)), (by with_reducible assumption), h1, trivial⟩) (by show ii + 1 ≤ k; omega) (by show k - (ii + 1) < k - ii; omega)
  | false =>
    have g1 := of_decide_eq_false h1
    try simp only [Int.ofNat_eq_natCast, ge_iff_le, gt_iff_lt, Int.not_lt, Int.not_le] at g1
    obtain rfl : k = ii := by omega
    refine round_exit (s0 := fotU S k) (T := fun i => fotT S k i) (i := k) (fotr_2 ..) (by simp) (cj ⟨rfl, rfl, rfl, rfl, rfl, rfl, Nat.le_refl _, .inl ⟨rfl, rfl⟩, rfl, Nat.le_refl _, .inl ⟨rfl, rfl⟩, rfl, rfl, rfl, rfl, rfl, rfl, rfl, rfl, (fun _ => rfl), h1, trivial⟩)
end Go.Proofs.YtljeiencnpnbkaaDoor
