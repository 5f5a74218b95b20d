/-
  FreesOnce: filled, its loop.
-/
import Derived.Test.YtljeiencnpnbkaaDoorUFolDef
set_option linter.unusedSimpArgs false
set_option linter.unusedVariables false
namespace Go.Proofs.YtljeiencnpnbkaaDoor
open Go.Ev
theorem folr_1 (n : Nat) (ii : Nat) : roundB EFo 2000 folL ((folU n).hp) [] (folT n ii) [Hint.b true, Hint.b false, Hint.b false, Hint.b false] (folT n (ii + 1)) =
 some (Ex.norm, [Int.ofNat n = Int.ofNat n,
 (0 : Nat) = 0,
 (0 : Nat) = 0,
 IntKind.i64.wrap (Int.ofNat ii + 1) = Int.ofNat (ii + 1),
 true = true,
 (1 : Nat) ≤ (1 : Nat),
 tabF tab = tabF tab ∧ plainSh (List.map kindOfV tab) = true ∨ ∀ (i : Nat), i < 1 → rowOb (List.map kindOfV tab) 0 (tabF tab i) (tabF tab i),
 (pshY (pshY (pshY (fillS ii) (UO.mk 1 0 (Int.ofNat ii))) (pshX (fillS ii) (UO.mk 1 0 (Int.ofNat ii)))) (pshX (pshY (fillS ii) (UO.mk 1 0 (Int.ofNat ii))) (pshX (fillS ii) (UO.mk 1 0 (Int.ofNat ii))))).st = (fillS (ii + 1)).st,
 (pshY (pshY (pshY (fillS ii) (UO.mk 1 0 (Int.ofNat ii))) (pshX (fillS ii) (UO.mk 1 0 (Int.ofNat ii)))) (pshX (pshY (fillS ii) (UO.mk 1 0 (Int.ofNat ii))) (pshX (fillS ii) (UO.mk 1 0 (Int.ofNat ii))))).L.c = (fillS (ii + 1)).L.c,
 (pshY (pshY (pshY (fillS ii) (UO.mk 1 0 (Int.ofNat ii))) (pshX (fillS ii) (UO.mk 1 0 (Int.ofNat ii)))) (pshX (pshY (fillS ii) (UO.mk 1 0 (Int.ofNat ii))) (pshX (fillS ii) (UO.mk 1 0 (Int.ofNat ii))))).L.k = (fillS (ii + 1)).L.k,
 (pshY (pshY (pshY (fillS ii) (UO.mk 1 0 (Int.ofNat ii))) (pshX (fillS ii) (UO.mk 1 0 (Int.ofNat ii)))) (pshX (pshY (fillS ii) (UO.mk 1 0 (Int.ofNat ii))) (pshX (fillS ii) (UO.mk 1 0 (Int.ofNat ii))))).L.a = (fillS (ii + 1)).L.a,
 (pshY (pshY (pshY (fillS ii) (UO.mk 1 0 (Int.ofNat ii))) (pshX (fillS ii) (UO.mk 1 0 (Int.ofNat ii)))) (pshX (pshY (fillS ii) (UO.mk 1 0 (Int.ofNat ii))) (pshX (fillS ii) (UO.mk 1 0 (Int.ofNat ii))))).L.f = (fillS (ii + 1)).L.f,
 (pshY (pshY (pshY (fillS ii) (UO.mk 1 0 (Int.ofNat ii))) (pshX (fillS ii) (UO.mk 1 0 (Int.ofNat ii)))) (pshX (pshY (fillS ii) (UO.mk 1 0 (Int.ofNat ii))) (pshX (fillS ii) (UO.mk 1 0 (Int.ofNat ii))))).L.w = (fillS (ii + 1)).L.w,
 (pshY (pshY (pshY (fillS ii) (UO.mk 1 0 (Int.ofNat ii))) (pshX (fillS ii) (UO.mk 1 0 (Int.ofNat ii)))) (pshX (pshY (fillS ii) (UO.mk 1 0 (Int.ofNat ii))) (pshX (fillS ii) (UO.mk 1 0 (Int.ofNat ii))))).L.i = (fillS (ii + 1)).L.i,
 (pshY (pshY (pshY (fillS ii) (UO.mk 1 0 (Int.ofNat ii))) (pshX (fillS ii) (UO.mk 1 0 (Int.ofNat ii)))) (pshX (pshY (fillS ii) (UO.mk 1 0 (Int.ofNat ii))) (pshX (fillS ii) (UO.mk 1 0 (Int.ofNat ii))))).L.d = (fillS (ii + 1)).L.d,
 ∀ (k : List Int), (pshY (pshY (pshY (fillS ii) (UO.mk 1 0 (Int.ofNat ii))) (pshX (fillS ii) (UO.mk 1 0 (Int.ofNat ii)))) (pshX (pshY (fillS ii) (UO.mk 1 0 (Int.ofNat ii))) (pshX (fillS ii) (UO.mk 1 0 (Int.ofNat ii))))).M k = (fillS (ii + 1)).M k,
 (!decide ((pshX (pshY (pshY (fillS ii) (UO.mk 1 0 (Int.ofNat ii))) (pshX (fillS ii) (UO.mk 1 0 (Int.ofNat ii)))) (pshX (pshY (fillS ii) (UO.mk 1 0 (Int.ofNat ii))) (pshX (fillS ii) (UO.mk 1 0 (Int.ofNat ii))))).ln = 0)) = false,
 tabF tab = tabF tab,
 U64 (pshY (pshY (fillS ii) (UO.mk 1 0 (Int.ofNat ii))) (pshX (fillS ii) (UO.mk 1 0 (Int.ofNat ii)))),
 Ln3 (pshX (pshY (fillS ii) (UO.mk 1 0 (Int.ofNat ii))) (pshX (fillS ii) (UO.mk 1 0 (Int.ofNat ii)))).ln,
 R64 (pshX (pshY (fillS ii) (UO.mk 1 0 (Int.ofNat ii))) (pshX (fillS ii) (UO.mk 1 0 (Int.ofNat ii)))).h,
 tabF tab = tabF tab,
 U64 (pshY (fillS ii) (UO.mk 1 0 (Int.ofNat ii))),
 Ln3 (pshX (fillS ii) (UO.mk 1 0 (Int.ofNat ii))).ln,
 R64 (pshX (fillS ii) (UO.mk 1 0 (Int.ofNat ii))).h,
 tabF tab = tabF tab,
 U64 (fillS ii),
 Ln3 1,
 R64 0,
 decide (Int.ofNat ii ≥ 256) = false,
 decide (Int.ofNat ii < 0) = false,
 decide (Int.ofNat ii < Int.ofNat n) = true]) := by kernel_rfl
theorem folr_2 (n : Nat) (ii : Nat) : roundB EFo 2000 folL ((folU n).hp) [] (folT n ii) [Hint.b false] (folX n ii) =
 some (Ex.exit 0, [Int.ofNat n = Int.ofNat n,
 (0 : Nat) = 0,
 (0 : Nat) = 0,
 true = true,
 (1 : Nat) ≤ (1 : Nat),
 tabF tab = tabF tab ∧ plainSh (List.map kindOfV tab) = true ∨ ∀ (i : Nat), i < 1 → rowOb (List.map kindOfV tab) 0 (tabF tab i) (tabF tab i),
 (fillS ii).st = (fillS ii).st,
 (fillS ii).L.c = (fillS ii).L.c,
 (fillS ii).L.k = (fillS ii).L.k,
 (fillS ii).L.a = (fillS ii).L.a,
 (fillS ii).L.f = (fillS ii).L.f,
 (fillS ii).L.w = (fillS ii).L.w,
 (fillS ii).L.i = (fillS ii).L.i,
 (fillS ii).L.d = (fillS ii).L.d,
 ∀ (k : List Int), (fillS ii).M k = (fillS ii).M k,
 decide (Int.ofNat ii < Int.ofNat n) = false]) := by kernel_rfl
theorem foli_1 (n : Nat) : castSt ((folU n).hp) [] (folU n) (folT n 0) =
 some ([Int.ofNat n = Int.ofNat n,
 (0 : Nat) = 0,
 (0 : Nat) = 0,
 (0 : Int) = 0,
 true = true,
 (1 : Nat) ≤ (1 : Nat),
 tabF tab = tabF tab ∧ plainSh (List.map kindOfV tab) = true ∨ ∀ (i : Nat), i < 1 → rowOb (List.map kindOfV tab) 0 (tabF tab i) (tabF tab i),
 (0 : Int) = 0,
 (0 : Int) = 0,
 (0 : Int) = 0,
 (0 : Int) = 0,
 (0 : Int) = 0,
 (0 : Int) = 0,
 (0 : Int) = 0,
 false = (fillS 0).L.d,
 ∀ (k : List Int), none = (fillS 0).M k]) := by kernel_rfl
theorem fol_lp (n : Nat) (hn : n ≤ 60) : folLP n := by
  refine loop_rule EFo_ok (I := Nat) (fun i => folT n i) (fun i => n - i) (fun i => i ≤ n) ?_ (fun ii hi => ?_)
  ·
    refine ⟨0, [], _, Nat.zero_le _, foli_1 .., (cj ⟨rfl, rfl, rfl, rfl, rfl, Nat.le_refl _, .inl ⟨rfl, rfl⟩, rfl, rfl, rfl, rfl, rfl, rfl, rfl, rfl, (fun _ => rfl), trivial⟩)⟩
  have hi : ii ≤ n := hi
  have hu := fillS_u ii (by omega)
  have hu1 := (psS_u hu (Int.ofNat ii)).1
  have hu2 := (psS_u hu (Int.ofNat ii)).2.1
  have ho1 := (psO_ok hu (Int.ofNat ii)).1
  have ho2 := (psO_ok hu (Int.ofNat ii)).2
  have hb0 : decide (Int.ofNat ii < 0) = false := decide_eq_false (by simp)
  have hb1 : decide (Int.ofNat ii ≥ 256) = false := decide_eq_false (by simp; omega)
  have hl3 : ii < n → (!decide ((psO3 (fillS ii) (Int.ofNat ii)).ln = 0)) = false := fun h => by rw [decide_eq_true (fill_lines h hn).1]; rfl
  cases h1 : (decide (Int.ofNat ii < Int.ofNat n)) with
  | true =>
    have g1 := of_decide_eq_true h1
    try simp only [Int.ofNat_eq_natCast, ge_iff_le, gt_iff_lt, Int.not_lt, Int.not_le] at g1
    refine round_norm (s0 := folU n) (T := fun i => folT n i) (i := ii) (ii + 1) (folr_1 ..) (cj ⟨rfl, rfl, rfl, wrap_nat64 _ (by simp; omega) (by simp; omega), rfl, Nat.le_refl _, .inl ⟨rfl, rfl⟩, rfl, rfl, rfl, rfl, rfl, rfl, rfl, rfl, (fun _ => rfl), hl3 (by omega), rfl, hu2, ho2.l, ho2.h, rfl, hu1, ho1.l, ho1.h, rfl, (by with_reducible assumption), .inr (.inl rfl), z0, (by with_reducible assumption), (by with_reducible assumption), h1, trivial⟩) (by show ii + 1 ≤ n; omega) (by show n - (ii + 1) < n - ii; omega)
  | false =>
    have g1 := of_decide_eq_false h1
    try simp only [Int.ofNat_eq_natCast, ge_iff_le, gt_iff_lt, Int.not_lt, Int.not_le] at g1
    obtain rfl : n = ii := by omega
    refine round_exit (s0 := folU n) (T := fun i => folT n i) (i := n) (folr_2 ..) (by simp) (cj ⟨rfl, rfl, rfl, rfl, Nat.le_refl _, .inl ⟨rfl, rfl⟩, rfl, rfl, rfl, rfl, rfl, rfl, rfl, rfl, (fun _ => rfl), h1, trivial⟩)
end Go.Proofs.YtljeiencnpnbkaaDoor
