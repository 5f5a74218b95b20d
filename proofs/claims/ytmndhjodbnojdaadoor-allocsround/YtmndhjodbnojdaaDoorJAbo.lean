/-
  Begin: the outer loop.
-/
import Derived.Test.YtmndhjodbnojdaaDoorJAboDef
set_option linter.unusedSimpArgs false
set_option linter.unusedVariables false
namespace Go.Proofs.YtmndhjodbnojdaaDoor
open Go.Ev
theorem abor_1 (a : Int) (ii : Nat) : roundB EAb 2000 aboL ((aboU a).hp) [] (aboT a ii) [Hint.b true, Hint.b true, Hint.lp [0, 2, 3, 4, 5, 6] (Ex.exit 2) (abkX a (mStore (bgN ii) 6 (Int.ofNat ii) 0 1) ii 8).tmps (abkX a (mStore (bgN ii) 6 (Int.ofNat ii) 0 1) ii 8).hp.heap 3 [2, 1]] (aboT a (ii + 1)) =
 some (Ex.norm, [a = a,
 (0 : Nat) = 0,
 (0 : Nat) = 0,
 IntKind.i64.wrap (Int.ofNat ii + 1) = Int.ofNat (ii + 1),
 true = true,
 (1 : Nat) ≤ (1 : Nat),
 tabF tab = tabF tab ∧ plainSh (List.map kindOfV tab) = true ∨ ∀ (i : Nat), i < 1 → rowOb (List.map kindOfV tab) 0 (tabF tab i) (tabF tab i),
 (bgK (mStore (bgN ii) 6 (Int.ofNat ii) 0 1) ii 8).st = (bgN (ii + 1)).st,
 (bgK (mStore (bgN ii) 6 (Int.ofNat ii) 0 1) ii 8).L.c = (bgN (ii + 1)).L.c,
 (bgK (mStore (bgN ii) 6 (Int.ofNat ii) 0 1) ii 8).L.k = (bgN (ii + 1)).L.k,
 (bgK (mStore (bgN ii) 6 (Int.ofNat ii) 0 1) ii 8).L.a = (bgN (ii + 1)).L.a,
 (bgK (mStore (bgN ii) 6 (Int.ofNat ii) 0 1) ii 8).L.f = (bgN (ii + 1)).L.f,
 (bgK (mStore (bgN ii) 6 (Int.ofNat ii) 0 1) ii 8).L.w = (bgN (ii + 1)).L.w,
 (bgK (mStore (bgN ii) 6 (Int.ofNat ii) 0 1) ii 8).L.i = (bgN (ii + 1)).L.i,
 (bgK (mStore (bgN ii) 6 (Int.ofNat ii) 0 1) ii 8).L.d = (bgN (ii + 1)).L.d,
 ∀ (k : List Int), (bgK (mStore (bgN ii) 6 (Int.ofNat ii) 0 1) ii 8).M k = (bgN (ii + 1)).M k,
 abkLP a (mStore (bgN ii) 6 (Int.ofNat ii) 0 1) ii,
 (0 : Int) ≤ (6 : Int),
 decide (Int.ofNat ii < 32) = true,
 decide (Int.ofNat ii < a) = true]) := by kernel_rfl
theorem abor_2 (a : Int) (ii : Nat) : roundB EAb 2000 aboL ((aboU a).hp) [] (aboT a ii) [Hint.b false] (aboX a ii) =
 some (Ex.exit 0, [a = a,
 (0 : Nat) = 0,
 (0 : Nat) = 0,
 true = true,
 (1 : Nat) ≤ (1 : Nat),
 tabF tab = tabF tab ∧ plainSh (List.map kindOfV tab) = true ∨ ∀ (i : Nat), i < 1 → rowOb (List.map kindOfV tab) 0 (tabF tab i) (tabF tab i),
 (bgN ii).st = (bgN ii).st,
 (bgN ii).L.c = (bgN ii).L.c,
 (bgN ii).L.k = (bgN ii).L.k,
 (bgN ii).L.a = (bgN ii).L.a,
 (bgN ii).L.f = (bgN ii).L.f,
 (bgN ii).L.w = (bgN ii).L.w,
 (bgN ii).L.i = (bgN ii).L.i,
 (bgN ii).L.d = (bgN ii).L.d,
 ∀ (k : List Int), (bgN ii).M k = (bgN ii).M k,
 decide (Int.ofNat ii < a) = false]) := by kernel_rfl
theorem aboi_1 (a : Int) : castSt ((aboU a).hp) [] (aboU a) (aboT a 0) =
 some ([a = a,
 (0 : Nat) = 0,
 (0 : Nat) = 0,
 (0 : Int) = 0,
 true = true,
 (1 : Nat) ≤ (1 : Nat),
 tabF tab = tabF tab ∧ plainSh (List.map kindOfV tab) = true ∨ ∀ (i : Nat), i < 1 → rowOb (List.map kindOfV tab) 0 (tabF tab i) (tabF tab i),
 (0 : Int) = 0,
 (0 : Int) = 0,
 (0 : Int) = 0,
 (0 : Int) = 0,
 (0 : Int) = 0,
 (0 : Int) = 0,
 (0 : Int) = 0,
 false = (bgN 0).L.d,
 ∀ (k : List Int), none = (bgN 0).M k]) := by kernel_rfl
theorem abo_lp (a : Int) (h0 : 0 ≤ a) (h1 : a ≤ 32) : aboLP a := by
  refine loop_rule EAb_ok (I := Nat) (fun i => aboT a i) (fun i => a.toNat - i) (fun i => i ≤ a.toNat) ?_ (fun ii hi => ?_)
  ·
    refine ⟨0, [], _, Nat.zero_le _, aboi_1 .., (ob_cons rfl (ob_cons rfl (ob_cons rfl (ob_cons rfl (ob_cons rfl (ob_cons (Nat.le_refl _) (ob_cons (.inl ⟨rfl, rfl⟩) (ob_cons rfl (ob_cons rfl (ob_cons rfl (ob_cons rfl (ob_cons rfl (ob_cons rfl (ob_cons rfl (ob_cons ?_ (ob_cons ?_ ob_nil))))))))))))))))⟩
    · exact rfl
    · exact fun _ => rfl
  have hi : ii ≤ a.toNat := hi
  have hlp : ii < 32 → abkLP a (mStore (bgN ii) 6 (Int.ofNat ii) 0 1) ii := fun h => abk_lp a _ ii h (((bgN_sk ii (by omega)).seg (Int.ofNat ii) 0 1 (by decide)).u) (fun k hk => bg_over h hk)
  cases h1 : (decide (Int.ofNat ii < a)) with
  | true =>
    have g1 := of_decide_eq_true h1
    try simp only [Int.ofNat_eq_natCast, ge_iff_le, gt_iff_lt, Int.not_lt, Int.not_le] at g1
    refine round_norm (s0 := aboU a) (T := fun i => aboT a i) (i := ii) (ii + 1) (abor_1 ..) (ob_cons rfl (ob_cons rfl (ob_cons rfl (ob_cons ?_ (ob_cons rfl (ob_cons (Nat.le_refl _) (ob_cons (.inl ⟨rfl, rfl⟩) (ob_cons ?_ (ob_cons ?_ (ob_cons ?_ (ob_cons ?_ (ob_cons ?_ (ob_cons ?_ (ob_cons ?_ (ob_cons ?_ (ob_cons ?_ (ob_cons ?_ (ob_cons (by decide) (ob_cons ?_ (ob_cons h1 ob_nil)))))))))))))))))))) (by show ii + 1 ≤ a.toNat; omega) (by show a.toNat - (ii + 1) < a.toNat - ii; omega)
    · exact wrap_nat64 _ (by simp; omega) (by simp; omega)
    · exact rfl
    · exact rfl
    · exact rfl
    · exact rfl
    · exact rfl
    · exact rfl
    · exact rfl
    · exact rfl
    · exact fun _ => rfl
    · exact hlp (by omega)
    · (simp [Nat.blt_eq]; omega)
  | false =>
    have g1 := of_decide_eq_false h1
    try simp only [Int.ofNat_eq_natCast, ge_iff_le, gt_iff_lt, Int.not_lt, Int.not_le] at g1
    obtain rfl : a.toNat = ii := by omega
    refine round_exit (s0 := aboU a) (T := fun i => aboT a i) (i := a.toNat) (abor_2 ..) (by simp) (ob_cons rfl (ob_cons rfl (ob_cons rfl (ob_cons rfl (ob_cons (Nat.le_refl _) (ob_cons (.inl ⟨rfl, rfl⟩) (ob_cons rfl (ob_cons rfl (ob_cons rfl (ob_cons rfl (ob_cons rfl (ob_cons rfl (ob_cons rfl (ob_cons rfl (ob_cons (fun _ => rfl) (ob_cons h1 ob_nil))))))))))))))))
end Go.Proofs.YtmndhjodbnojdaaDoor
