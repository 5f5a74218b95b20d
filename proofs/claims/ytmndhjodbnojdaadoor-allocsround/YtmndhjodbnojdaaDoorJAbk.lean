/-
  Begin: the inner loop.
-/
import Derived.Test.YtmndhjodbnojdaaDoorJAbkDef
set_option linter.unusedSimpArgs false
set_option linter.unusedVariables false
namespace Go.Proofs.YtmndhjodbnojdaaDoor
open Go.Ev
theorem abkr_1 (a : Int) (S : MS) (j : Nat) (ii : Nat) : roundB EAb 2000 abkL ((abkU a S j).hp) [] (abkT a S j ii) [Hint.b true, Hint.b false, Hint.b false, Hint.b false] (abkT a S j (ii + 1)) =
 some (Ex.norm, [a = a,
 (0 : Nat) = 0,
 (0 : Nat) = 0,
 Int.ofNat j = Int.ofNat j,
 IntKind.i64.wrap (Int.ofNat ii + 1) = Int.ofNat (ii + 1),
 true = true,
 (1 : Nat) ≤ (1 : Nat),
 tabF tab = tabF tab ∧ plainSh (List.map kindOfV tab) = true ∨ ∀ (i : Nat), i < 1 → rowOb (List.map kindOfV tab) 0 (tabF tab i) (tabF tab i),
 (pshY (pshY (pshY (bgK S j ii) (UO.mk 1 0 (IntKind.i64.wrap (IntKind.i64.wrap (Int.ofNat j * 8) + Int.ofNat ii)))) (pshX (bgK S j ii) (UO.mk 1 0 (IntKind.i64.wrap (IntKind.i64.wrap (Int.ofNat j * 8) + Int.ofNat ii))))) (pshX (pshY (bgK S j ii) (UO.mk 1 0 (IntKind.i64.wrap (IntKind.i64.wrap (Int.ofNat j * 8) + Int.ofNat ii)))) (pshX (bgK S j ii) (UO.mk 1 0 (IntKind.i64.wrap (IntKind.i64.wrap (Int.ofNat j * 8) + Int.ofNat ii)))))).st = (bgK S j (ii + 1)).st,
 (pshY (pshY (pshY (bgK S j ii) (UO.mk 1 0 (IntKind.i64.wrap (IntKind.i64.wrap (Int.ofNat j * 8) + Int.ofNat ii)))) (pshX (bgK S j ii) (UO.mk 1 0 (IntKind.i64.wrap (IntKind.i64.wrap (Int.ofNat j * 8) + Int.ofNat ii))))) (pshX (pshY (bgK S j ii) (UO.mk 1 0 (IntKind.i64.wrap (IntKind.i64.wrap (Int.ofNat j * 8) + Int.ofNat ii)))) (pshX (bgK S j ii) (UO.mk 1 0 (IntKind.i64.wrap (IntKind.i64.wrap (Int.ofNat j * 8) + Int.ofNat ii)))))).L.c = (bgK S j (ii + 1)).L.c,
 (pshY (pshY (pshY (bgK S j ii) (UO.mk 1 0 (IntKind.i64.wrap (IntKind.i64.wrap (Int.ofNat j * 8) + Int.ofNat ii)))) (pshX (bgK S j ii) (UO.mk 1 0 (IntKind.i64.wrap (IntKind.i64.wrap (Int.ofNat j * 8) + Int.ofNat ii))))) (pshX (pshY (bgK S j ii) (UO.mk 1 0 (IntKind.i64.wrap (IntKind.i64.wrap (Int.ofNat j * 8) + Int.ofNat ii)))) (pshX (bgK S j ii) (UO.mk 1 0 (IntKind.i64.wrap (IntKind.i64.wrap (Int.ofNat j * 8) + Int.ofNat ii)))))).L.k = (bgK S j (ii + 1)).L.k,
 (pshY (pshY (pshY (bgK S j ii) (UO.mk 1 0 (IntKind.i64.wrap (IntKind.i64.wrap (Int.ofNat j * 8) + Int.ofNat ii)))) (pshX (bgK S j ii) (UO.mk 1 0 (IntKind.i64.wrap (IntKind.i64.wrap (Int.ofNat j * 8) + Int.ofNat ii))))) (pshX (pshY (bgK S j ii) (UO.mk 1 0 (IntKind.i64.wrap (IntKind.i64.wrap (Int.ofNat j * 8) + Int.ofNat ii)))) (pshX (bgK S j ii) (UO.mk 1 0 (IntKind.i64.wrap (IntKind.i64.wrap (Int.ofNat j * 8) + Int.ofNat ii)))))).L.a = (bgK S j (ii + 1)).L.a,
 (pshY (pshY (pshY (bgK S j ii) (UO.mk 1 0 (IntKind.i64.wrap (IntKind.i64.wrap (Int.ofNat j * 8) + Int.ofNat ii)))) (pshX (bgK S j ii) (UO.mk 1 0 (IntKind.i64.wrap (IntKind.i64.wrap (Int.ofNat j * 8) + Int.ofNat ii))))) (pshX (pshY (bgK S j ii) (UO.mk 1 0 (IntKind.i64.wrap (IntKind.i64.wrap (Int.ofNat j * 8) + Int.ofNat ii)))) (pshX (bgK S j ii) (UO.mk 1 0 (IntKind.i64.wrap (IntKind.i64.wrap (Int.ofNat j * 8) + Int.ofNat ii)))))).L.f = (bgK S j (ii + 1)).L.f,
 (pshY (pshY (pshY (bgK S j ii) (UO.mk 1 0 (IntKind.i64.wrap (IntKind.i64.wrap (Int.ofNat j * 8) + Int.ofNat ii)))) (pshX (bgK S j ii) (UO.mk 1 0 (IntKind.i64.wrap (IntKind.i64.wrap (Int.ofNat j * 8) + Int.ofNat ii))))) (pshX (pshY (bgK S j ii) (UO.mk 1 0 (IntKind.i64.wrap (IntKind.i64.wrap (Int.ofNat j * 8) + Int.ofNat ii)))) (pshX (bgK S j ii) (UO.mk 1 0 (IntKind.i64.wrap (IntKind.i64.wrap (Int.ofNat j * 8) + Int.ofNat ii)))))).L.w = (bgK S j (ii + 1)).L.w,
 (pshY (pshY (pshY (bgK S j ii) (UO.mk 1 0 (IntKind.i64.wrap (IntKind.i64.wrap (Int.ofNat j * 8) + Int.ofNat ii)))) (pshX (bgK S j ii) (UO.mk 1 0 (IntKind.i64.wrap (IntKind.i64.wrap (Int.ofNat j * 8) + Int.ofNat ii))))) (pshX (pshY (bgK S j ii) (UO.mk 1 0 (IntKind.i64.wrap (IntKind.i64.wrap (Int.ofNat j * 8) + Int.ofNat ii)))) (pshX (bgK S j ii) (UO.mk 1 0 (IntKind.i64.wrap (IntKind.i64.wrap (Int.ofNat j * 8) + Int.ofNat ii)))))).L.i = (bgK S j (ii + 1)).L.i,
 (pshY (pshY (pshY (bgK S j ii) (UO.mk 1 0 (IntKind.i64.wrap (IntKind.i64.wrap (Int.ofNat j * 8) + Int.ofNat ii)))) (pshX (bgK S j ii) (UO.mk 1 0 (IntKind.i64.wrap (IntKind.i64.wrap (Int.ofNat j * 8) + Int.ofNat ii))))) (pshX (pshY (bgK S j ii) (UO.mk 1 0 (IntKind.i64.wrap (IntKind.i64.wrap (Int.ofNat j * 8) + Int.ofNat ii)))) (pshX (bgK S j ii) (UO.mk 1 0 (IntKind.i64.wrap (IntKind.i64.wrap (Int.ofNat j * 8) + Int.ofNat ii)))))).L.d = (bgK S j (ii + 1)).L.d,
 ∀ (k : List Int), (pshY (pshY (pshY (bgK S j ii) (UO.mk 1 0 (IntKind.i64.wrap (IntKind.i64.wrap (Int.ofNat j * 8) + Int.ofNat ii)))) (pshX (bgK S j ii) (UO.mk 1 0 (IntKind.i64.wrap (IntKind.i64.wrap (Int.ofNat j * 8) + Int.ofNat ii))))) (pshX (pshY (bgK S j ii) (UO.mk 1 0 (IntKind.i64.wrap (IntKind.i64.wrap (Int.ofNat j * 8) + Int.ofNat ii)))) (pshX (bgK S j ii) (UO.mk 1 0 (IntKind.i64.wrap (IntKind.i64.wrap (Int.ofNat j * 8) + Int.ofNat ii)))))).M k = (bgK S j (ii + 1)).M k,
 (!decide ((pshX (pshY (pshY (bgK S j ii) (UO.mk 1 0 (IntKind.i64.wrap (IntKind.i64.wrap (Int.ofNat j * 8) + Int.ofNat ii)))) (pshX (bgK S j ii) (UO.mk 1 0 (IntKind.i64.wrap (IntKind.i64.wrap (Int.ofNat j * 8) + Int.ofNat ii))))) (pshX (pshY (bgK S j ii) (UO.mk 1 0 (IntKind.i64.wrap (IntKind.i64.wrap (Int.ofNat j * 8) + Int.ofNat ii)))) (pshX (bgK S j ii) (UO.mk 1 0 (IntKind.i64.wrap (IntKind.i64.wrap (Int.ofNat j * 8) + Int.ofNat ii)))))).ln = 0)) = false,
 tabF tab = tabF tab,
 U64 (pshY (pshY (bgK S j ii) (UO.mk 1 0 (IntKind.i64.wrap (IntKind.i64.wrap (Int.ofNat j * 8) + Int.ofNat ii)))) (pshX (bgK S j ii) (UO.mk 1 0 (IntKind.i64.wrap (IntKind.i64.wrap (Int.ofNat j * 8) + Int.ofNat ii))))),
 Ln3 (pshX (pshY (bgK S j ii) (UO.mk 1 0 (IntKind.i64.wrap (IntKind.i64.wrap (Int.ofNat j * 8) + Int.ofNat ii)))) (pshX (bgK S j ii) (UO.mk 1 0 (IntKind.i64.wrap (IntKind.i64.wrap (Int.ofNat j * 8) + Int.ofNat ii))))).ln,
 R64 (pshX (pshY (bgK S j ii) (UO.mk 1 0 (IntKind.i64.wrap (IntKind.i64.wrap (Int.ofNat j * 8) + Int.ofNat ii)))) (pshX (bgK S j ii) (UO.mk 1 0 (IntKind.i64.wrap (IntKind.i64.wrap (Int.ofNat j * 8) + Int.ofNat ii))))).h,
 tabF tab = tabF tab,
 U64 (pshY (bgK S j ii) (UO.mk 1 0 (IntKind.i64.wrap (IntKind.i64.wrap (Int.ofNat j * 8) + Int.ofNat ii)))),
 Ln3 (pshX (bgK S j ii) (UO.mk 1 0 (IntKind.i64.wrap (IntKind.i64.wrap (Int.ofNat j * 8) + Int.ofNat ii)))).ln,
 R64 (pshX (bgK S j ii) (UO.mk 1 0 (IntKind.i64.wrap (IntKind.i64.wrap (Int.ofNat j * 8) + Int.ofNat ii)))).h,
 tabF tab = tabF tab,
 U64 (bgK S j ii),
 Ln3 1,
 R64 0,
 decide (IntKind.i64.wrap (IntKind.i64.wrap (Int.ofNat j * 8) + Int.ofNat ii) ≥ 256) = false,
 decide (IntKind.i64.wrap (IntKind.i64.wrap (Int.ofNat j * 8) + Int.ofNat ii) < 0) = false,
 decide (Int.ofNat ii < 8) = true]) := by kernel_rfl
theorem abkr_2 (a : Int) (S : MS) (j : Nat) (ii : Nat) : roundB EAb 2000 abkL ((abkU a S j).hp) [] (abkT a S j ii) [Hint.b false] (abkX a S j ii) =
 some (Ex.exit 2, [a = a,
 (0 : Nat) = 0,
 (0 : Nat) = 0,
 Int.ofNat j = Int.ofNat j,
 true = true,
 (1 : Nat) ≤ (1 : Nat),
 tabF tab = tabF tab ∧ plainSh (List.map kindOfV tab) = true ∨ ∀ (i : Nat), i < 1 → rowOb (List.map kindOfV tab) 0 (tabF tab i) (tabF tab i),
 (bgK S j ii).st = (bgK S j ii).st,
 (bgK S j ii).L.c = (bgK S j ii).L.c,
 (bgK S j ii).L.k = (bgK S j ii).L.k,
 (bgK S j ii).L.a = (bgK S j ii).L.a,
 (bgK S j ii).L.f = (bgK S j ii).L.f,
 (bgK S j ii).L.w = (bgK S j ii).L.w,
 (bgK S j ii).L.i = (bgK S j ii).L.i,
 (bgK S j ii).L.d = (bgK S j ii).L.d,
 ∀ (k : List Int), (bgK S j ii).M k = (bgK S j ii).M k,
 decide (Int.ofNat ii < 8) = false]) := by kernel_rfl
theorem abki_1 (a : Int) (S : MS) (j : Nat) : castSt ((abkU a S j).hp) [] (abkU a S j) (abkT a S j 0) =
 some ([a = a,
 (0 : Nat) = 0,
 (0 : Nat) = 0,
 Int.ofNat j = Int.ofNat j,
 (0 : Int) = 0,
 true = true,
 (1 : Nat) ≤ (1 : Nat),
 tabF tab = tabF tab ∧ plainSh (List.map kindOfV tab) = true ∨ ∀ (i : Nat), i < 1 → rowOb (List.map kindOfV tab) 0 (tabF tab i) (tabF tab i),
 (bgK S j 0).st = (bgK S j 0).st,
 (bgK S j 0).L.c = (bgK S j 0).L.c,
 (bgK S j 0).L.k = (bgK S j 0).L.k,
 (bgK S j 0).L.a = (bgK S j 0).L.a,
 (bgK S j 0).L.f = (bgK S j 0).L.f,
 (bgK S j 0).L.w = (bgK S j 0).L.w,
 (bgK S j 0).L.i = (bgK S j 0).L.i,
 (bgK S j 0).L.d = (bgK S j 0).L.d,
 ∀ (k : List Int), (bgK S j 0).M k = (bgK S j 0).M k]) := by kernel_rfl
theorem abk_lp (a : Int) (S : MS) (j : Nat) (hj : j < 32) (hu0 : U64 S) (hov : ∀ k, k < 8 → (psO3 (bgK S j k) (bgSl j k)).ln = 0) : abkLP a S j := by
  refine loop_rule EAb_ok (I := Nat) (fun i => abkT a S j i) (fun i => 8 - i) (fun i => i ≤ 8) ?_ (fun ii hi => ?_)
  ·
    refine ⟨0, [], _, Nat.zero_le _, abki_1 .., (ob_cons rfl (ob_cons rfl (ob_cons rfl (ob_cons rfl (ob_cons rfl (ob_cons rfl (ob_cons (Nat.le_refl _) (ob_cons (.inl ⟨rfl, rfl⟩) (ob_cons rfl (ob_cons rfl (ob_cons rfl (ob_cons rfl (ob_cons rfl (ob_cons rfl (ob_cons rfl (ob_cons rfl (ob_cons (fun _ => rfl) ob_nil)))))))))))))))))⟩
  have hi : ii ≤ 8 := hi
  have hu := bgK_u hu0 j ii
  have hu1 := (psS_u hu (bgSl j ii)).1
  have hu2 := (psS_u hu (bgSl j ii)).2.1
  have ho1 := (psO_ok hu (bgSl j ii)).1
  have ho2 := (psO_ok hu (bgSl j ii)).2
  have hs0 : ii < 8 → ¬ bgSl j ii < 0 := fun h => by rw [bgSl_eq hj h]; omega
  have hs1 : ii < 8 → ¬ bgSl j ii ≥ 256 := fun h => by rw [bgSl_eq hj h]; omega
  cases h1 : (decide (Int.ofNat ii < 8)) with
  | true =>
    have g1 := of_decide_eq_true h1
    try simp only [Int.ofNat_eq_natCast, ge_iff_le, gt_iff_lt, Int.not_lt, Int.not_le] at g1
    refine round_norm (s0 := abkU a S j) (T := fun i => abkT a S j i) (i := ii) (ii + 1) (abkr_1 ..) (ob_cons rfl (ob_cons rfl (ob_cons rfl (ob_cons rfl (ob_cons ?_ (ob_cons rfl (ob_cons (Nat.le_refl _) (ob_cons (.inl ⟨rfl, rfl⟩) (ob_cons ?_ (ob_cons ?_ (ob_cons ?_ (ob_cons ?_ (ob_cons ?_ (ob_cons ?_ (ob_cons ?_ (ob_cons ?_ (ob_cons ?_ (ob_cons ?_ (ob_cons rfl (ob_cons ?_ (ob_cons ?_ (ob_cons ?_ (ob_cons rfl (ob_cons ?_ (ob_cons ?_ (ob_cons ?_ (ob_cons rfl (ob_cons ?_ (ob_cons ?_ (ob_cons ?_ (ob_cons ?_ (ob_cons ?_ (ob_cons h1 ob_nil))))))))))))))))))))))))))))))))) (by show ii + 1 ≤ 8; omega) (by show 8 - (ii + 1) < 8 - ii; omega)
    · exact wrap_nat64 _ (by simp; omega) (by simp; omega)
    · exact rfl
    · exact rfl
    · exact rfl
    · exact rfl
    · exact rfl
    · exact rfl
    · exact rfl
    · exact rfl
    · exact fun _ => rfl
    · exact not_f (decide_eq_true (hov ii (by omega)))
    · exact hu2
    · exact ho2.l
    · exact ho2.h
    · exact hu1
    · exact ho1.l
    · exact ho1.h
    · with_reducible assumption
    · exact .inr (.inl rfl)
    · exact z0
    · exact decide_eq_false (hs1 (by omega))
    · exact decide_eq_false (hs0 (by omega))
  | false =>
    have g1 := of_decide_eq_false h1
    try simp only [Int.ofNat_eq_natCast, ge_iff_le, gt_iff_lt, Int.not_lt, Int.not_le] at g1
    obtain rfl : 8 = ii := by omega
    refine round_exit (s0 := abkU a S j) (T := fun i => abkT a S j i) (i := 8) (abkr_2 ..) (by simp) (ob_cons rfl (ob_cons rfl (ob_cons rfl (ob_cons rfl (ob_cons rfl (ob_cons (Nat.le_refl _) (ob_cons (.inl ⟨rfl, rfl⟩) (ob_cons rfl (ob_cons rfl (ob_cons rfl (ob_cons rfl (ob_cons rfl (ob_cons rfl (ob_cons rfl (ob_cons rfl (ob_cons (fun _ => rfl) (ob_cons h1 ob_nil)))))))))))))))))
end Go.Proofs.YtmndhjodbnojdaaDoor
