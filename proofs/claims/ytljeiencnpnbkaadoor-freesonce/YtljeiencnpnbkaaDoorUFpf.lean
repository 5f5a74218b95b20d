/-
  FreesOnce: the counts.
-/
import Derived.Test.YtljeiencnpnbkaaDoorUFpfDef
set_option linter.unusedSimpArgs false
set_option linter.unusedVariables false
namespace Go.Proofs.YtljeiencnpnbkaaDoor
open Go.Ev
theorem fcr_1 (n : Nat) (N : Nat) (E : Nat → Int) (ii : Nat) : roundB EFz 2000 fcL ((fcU n N E).hp) [] (fcT n N E ii) [Hint.b true, Hint.b false, Hint.b false] (fcT n N E (ii + 1)) =
 some (Ex.norm, [Int.ofNat n = Int.ofNat n,
 (0 : Nat) = 0,
 N = N,
 (none : Option Nat) = none,
 (0 : Nat) = 0,
 n = n,
 some n = some n,
 IntKind.i64.wrap (Int.ofNat ii + 1) = Int.ofNat (ii + 1),
 false = false,
 n ≤ n,
 LF (scN E (ii + 1)) = upd (LF (scN E ii)) (0 + (E (0 + ii)).toNat) 0 (mkI IntKind.i64 (and2 false true) (IntKind.i64.wrap (scN E ii (0 + (E (0 + ii)).toNat) + 1))).cells ∧ plainSh [CK.int IntKind.i64] = true ∨ ∀ (i : Nat), i < n → rowOb [CK.int IntKind.i64] 0 (upd (LF (scN E ii)) (0 + (E (0 + ii)).toNat) 0 (mkI IntKind.i64 (and2 false true) (IntKind.i64.wrap (scN E ii (0 + (E (0 + ii)).toNat) + 1))).cells i) (LF (scN E (ii + 1)) i),
 false = false,
 N ≤ N,
 LF E = LF E ∧ plainSh [CK.int IntKind.i64] = true ∨ ∀ (i : Nat), i < N → rowOb [CK.int IntKind.i64] 0 (LF E i) (LF E i),
 true = true,
 (1 : Nat) ≤ (1 : Nat),
 tabF tab = tabF tab ∧ plainSh (List.map kindOfV tab) = true ∨ ∀ (i : Nat), i < 1 → rowOb (List.map kindOfV tab) 0 (tabF tab i) (tabF tab i),
 (0 + (E (0 + ii)).toNat).blt n = true,
 ((E (0 + ii)).toNat.blt n && decide (0 ≤ E (0 + ii))) = true,
 (0 + (E (0 + ii)).toNat).blt n = true,
 ((E (0 + ii)).toNat.blt n && decide (0 ≤ E (0 + ii))) = true,
 (0 + ii).blt N = true,
 (ii.blt N && decide (0 ≤ Int.ofNat ii)) = true,
 decide (E (0 + ii) ≥ Int.ofNat n) = false,
 (0 + ii).blt N = true,
 (ii.blt N && decide (0 ≤ Int.ofNat ii)) = true,
 decide (E (0 + ii) < 0) = false,
 (0 + ii).blt N = true,
 (ii.blt N && decide (0 ≤ Int.ofNat ii)) = true,
 decide (Int.ofNat ii < Int.ofNat N) = true]) := by kernel_rfl
theorem fcr_2 (n : Nat) (N : Nat) (E : Nat → Int) (ii : Nat) : roundB EFz 2000 fcL ((fcU n N E).hp) [] (fcT n N E ii) [Hint.b false] (fcX n N E ii) =
 some (Ex.exit 8, [Int.ofNat n = Int.ofNat n,
 (0 : Nat) = 0,
 N = N,
 (none : Option Nat) = none,
 (0 : Nat) = 0,
 n = n,
 some n = some n,
 false = false,
 n ≤ n,
 LF (scN E ii) = LF (scN E ii) ∧ plainSh [CK.int IntKind.i64] = true ∨ ∀ (i : Nat), i < n → rowOb [CK.int IntKind.i64] 0 (LF (scN E ii) i) (LF (scN E ii) i),
 false = false,
 N ≤ N,
 LF E = LF E ∧ plainSh [CK.int IntKind.i64] = true ∨ ∀ (i : Nat), i < N → rowOb [CK.int IntKind.i64] 0 (LF E i) (LF E i),
 true = true,
 (1 : Nat) ≤ (1 : Nat),
 tabF tab = tabF tab ∧ plainSh (List.map kindOfV tab) = true ∨ ∀ (i : Nat), i < 1 → rowOb (List.map kindOfV tab) 0 (tabF tab i) (tabF tab i),
 decide (Int.ofNat ii < Int.ofNat N) = false]) := by kernel_rfl
theorem fci_1 (n : Nat) (N : Nat) (E : Nat → Int) : castSt ((fcU n N E).hp) [] (fcU n N E) (fcT n N E 0) =
 some ([Int.ofNat n = Int.ofNat n,
 (0 : Nat) = 0,
 N = N,
 (none : Option Nat) = none,
 (0 : Nat) = 0,
 n = n,
 some n = some n,
 (0 : Int) = 0,
 false = false,
 n ≤ n,
 (LF (scN E 0) = LF fun x => 0) ∧ plainSh [CK.int IntKind.i64] = true ∨ ∀ (i : Nat), i < n → rowOb [CK.int IntKind.i64] 0 (LF (fun x => 0) i) (LF (scN E 0) i),
 false = false,
 N ≤ N,
 LF E = LF E ∧ plainSh [CK.int IntKind.i64] = true ∨ ∀ (i : Nat), i < N → rowOb [CK.int IntKind.i64] 0 (LF E i) (LF E i),
 true = true,
 (1 : Nat) ≤ (1 : Nat),
 tabF tab = tabF tab ∧ plainSh (List.map kindOfV tab) = true ∨ ∀ (i : Nat), i < 1 → rowOb (List.map kindOfV tab) 0 (tabF tab i) (tabF tab i)]) := by kernel_rfl
theorem fc_lp (n : Nat) (N : Nat) (E : Nat → Int) (hn : n ≤ 60) (hN : N ≤ 60) (hE : ∀ i, i < N → 0 ≤ E i ∧ E i < n) : fcLP n N E := by
  refine loop_rule EFz_ok (I := Nat) (fun i => fcT n N E i) (fun i => N - i) (fun i => i ≤ N) ?_ (fun ii hi => ?_)
  ·
    refine ⟨0, [], _, Nat.zero_le _, fci_1 .., (cj ⟨rfl, rfl, rfl, rfl, rfl, rfl, rfl, rfl, rfl, Nat.le_refl _, .inl ⟨rfl, rfl⟩, rfl, Nat.le_refl _, .inl ⟨rfl, rfl⟩, rfl, Nat.le_refl _, .inl ⟨rfl, rfl⟩, trivial⟩)⟩
  have hi : ii ≤ N := hi
  have hz0 : ii < N → decide (E (0 + ii) < 0) = false := fun h => decide_eq_false (by rw [Nat.zero_add]; have := (hE ii h).1; omega)
  have hz1 : ii < N → decide (E (0 + ii) ≥ Int.ofNat n) = false := fun h => decide_eq_false (by rw [Nat.zero_add]; have := (hE ii h).2; simp; omega)
  have hb1 : ii < N → (0 + (E (0 + ii)).toNat).blt n = true := fun h => by rw [Nat.zero_add, Nat.zero_add]; have := hE ii h; simp [Nat.blt_eq]; omega
  have hb2 : ii < N → ((E (0 + ii)).toNat.blt n && decide (0 ≤ E (0 + ii))) = true := fun h => by rw [Bool.and_eq_true, Nat.zero_add]; have := hE ii h; exact ⟨by simp [Nat.blt_eq]; omega, decide_eq_true this.1⟩
  have hrw := sc_rows (E := E) (n := n) (i := ii) (q := 0 + (E (0 + ii)).toNat) (by rw [Nat.zero_add, Nat.zero_add])
  cases h1 : (decide (Int.ofNat ii < Int.ofNat N)) with
  | true =>
    have g1 := of_decide_eq_true h1
    try simp only [Int.ofNat_eq_natCast, ge_iff_le, gt_iff_lt, Int.not_lt, Int.not_le] at g1
    refine round_norm (s0 := fcU n N E) (T := fun i => fcT n N E i) (i := ii) (ii + 1) (fcr_1 ..) (cj ⟨rfl, rfl, rfl, rfl, rfl, rfl, rfl, wrap_nat64 _ (by simp; omega) (by simp; omega), rfl, Nat.le_refl _, .inr hrw, rfl, Nat.le_refl _, .inl ⟨rfl, rfl⟩, rfl, Nat.le_refl _, .inl ⟨rfl, rfl⟩, hb1 (by omega), hb2 (by omega), hb1 (by omega), hb2 (by omega), (by (apply Nat.ble_eq_true_of_le; omega)), (by (try simp [Nat.blt_eq]); omega), hz1 (by omega), (by (apply Nat.ble_eq_true_of_le; omega)), (by (try simp [Nat.blt_eq]); omega), hz0 (by omega), (by (apply Nat.ble_eq_true_of_le; omega)), (by (try simp [Nat.blt_eq]); omega), h1, trivial⟩) (by show ii + 1 ≤ N; omega) (by show N - (ii + 1) < N - ii; omega)
  | false =>
    have g1 := of_decide_eq_false h1
    try simp only [Int.ofNat_eq_natCast, ge_iff_le, gt_iff_lt, Int.not_lt, Int.not_le] at g1
    obtain rfl : N = ii := by omega
    refine round_exit (s0 := fcU n N E) (T := fun i => fcT n N E i) (i := N) (fcr_2 ..) (by simp) (cj ⟨rfl, rfl, rfl, rfl, rfl, rfl, rfl, rfl, Nat.le_refl _, .inl ⟨rfl, rfl⟩, rfl, Nat.le_refl _, .inl ⟨rfl, rfl⟩, rfl, Nat.le_refl _, .inl ⟨rfl, rfl⟩, h1, trivial⟩)
theorem fdr_1 (n : Nat) (N : Nat) (E : Nat → Int) (B : Nat → Int) (ii : Nat) : roundB EFz 2000 fdL ((fdU n N E B).hp) [] (fdT n N E B ii) [Hint.b true, Hint.b false] (fdT n N E B (ii + 1)) =
 some (Ex.norm, [Int.ofNat n = Int.ofNat n,
 (0 : Nat) = 0,
 N = N,
 (none : Option Nat) = none,
 (0 : Nat) = 0,
 n = n,
 some n = some n,
 IntKind.i64.wrap (Int.ofNat ii + 1) = Int.ofNat (ii + 1),
 false = false,
 n ≤ n,
 LF B = LF B ∧ plainSh [CK.int IntKind.i64] = true ∨ ∀ (i : Nat), i < n → rowOb [CK.int IntKind.i64] 0 (LF B i) (LF B i),
 false = false,
 N ≤ N,
 LF E = LF E ∧ plainSh [CK.int IntKind.i64] = true ∨ ∀ (i : Nat), i < N → rowOb [CK.int IntKind.i64] 0 (LF E i) (LF E i),
 true = true,
 (1 : Nat) ≤ (1 : Nat),
 tabF tab = tabF tab ∧ plainSh (List.map kindOfV tab) = true ∨ ∀ (i : Nat), i < 1 → rowOb (List.map kindOfV tab) 0 (tabF tab i) (tabF tab i),
 (B (0 + ii) != 1) = false,
 (0 + ii).blt n = true,
 (ii.blt n && decide (0 ≤ Int.ofNat ii)) = true,
 decide (Int.ofNat ii < Int.ofNat n) = true]) := by kernel_rfl
theorem fdr_2 (n : Nat) (N : Nat) (E : Nat → Int) (B : Nat → Int) (ii : Nat) : roundB EFz 2000 fdL ((fdU n N E B).hp) [] (fdT n N E B ii) [Hint.b false] (fdX n N E B ii) =
 some (Ex.exit 10, [Int.ofNat n = Int.ofNat n,
 (0 : Nat) = 0,
 N = N,
 (none : Option Nat) = none,
 (0 : Nat) = 0,
 n = n,
 some n = some n,
 false = false,
 n ≤ n,
 LF B = LF B ∧ plainSh [CK.int IntKind.i64] = true ∨ ∀ (i : Nat), i < n → rowOb [CK.int IntKind.i64] 0 (LF B i) (LF B i),
 false = false,
 N ≤ N,
 LF E = LF E ∧ plainSh [CK.int IntKind.i64] = true ∨ ∀ (i : Nat), i < N → rowOb [CK.int IntKind.i64] 0 (LF E i) (LF E i),
 true = true,
 (1 : Nat) ≤ (1 : Nat),
 tabF tab = tabF tab ∧ plainSh (List.map kindOfV tab) = true ∨ ∀ (i : Nat), i < 1 → rowOb (List.map kindOfV tab) 0 (tabF tab i) (tabF tab i),
 decide (Int.ofNat ii < Int.ofNat n) = false]) := by kernel_rfl
theorem fdi_1 (n : Nat) (N : Nat) (E : Nat → Int) (B : Nat → Int) : castSt ((fdU n N E B).hp) [] (fdU n N E B) (fdT n N E B 0) =
 some ([Int.ofNat n = Int.ofNat n,
 (0 : Nat) = 0,
 N = N,
 (none : Option Nat) = none,
 (0 : Nat) = 0,
 n = n,
 some n = some n,
 (0 : Int) = 0,
 false = false,
 n ≤ n,
 LF B = LF B ∧ plainSh [CK.int IntKind.i64] = true ∨ ∀ (i : Nat), i < n → rowOb [CK.int IntKind.i64] 0 (LF B i) (LF B i),
 false = false,
 N ≤ N,
 LF E = LF E ∧ plainSh [CK.int IntKind.i64] = true ∨ ∀ (i : Nat), i < N → rowOb [CK.int IntKind.i64] 0 (LF E i) (LF E i),
 true = true,
 (1 : Nat) ≤ (1 : Nat),
 tabF tab = tabF tab ∧ plainSh (List.map kindOfV tab) = true ∨ ∀ (i : Nat), i < 1 → rowOb (List.map kindOfV tab) 0 (tabF tab i) (tabF tab i)]) := by kernel_rfl
theorem fd_lp (n : Nat) (N : Nat) (E : Nat → Int) (B : Nat → Int) (hn : n ≤ 60) (hB : ∀ i, i < n → B i = 1) : fdLP n N E B := by
  refine loop_rule EFz_ok (I := Nat) (fun i => fdT n N E B i) (fun i => n - i) (fun i => i ≤ n) ?_ (fun ii hi => ?_)
  ·
    refine ⟨0, [], _, Nat.zero_le _, fdi_1 .., (cj ⟨rfl, rfl, rfl, rfl, rfl, rfl, rfl, rfl, rfl, Nat.le_refl _, .inl ⟨rfl, rfl⟩, rfl, Nat.le_refl _, .inl ⟨rfl, rfl⟩, rfl, Nat.le_refl _, .inl ⟨rfl, rfl⟩, trivial⟩)⟩
  have hi : ii ≤ n := hi
  have hz0 : ii < n → (B (0 + ii) != 1) = false := fun h => by rw [Nat.zero_add, hB ii h]; rfl
  cases h1 : (decide (Int.ofNat ii < Int.ofNat n)) with
  | true =>
    have g1 := of_decide_eq_true h1
    try simp only [Int.ofNat_eq_natCast, ge_iff_le, gt_iff_lt, Int.not_lt, Int.not_le] at g1
    refine round_norm (s0 := fdU n N E B) (T := fun i => fdT n N E B i) (i := ii) (ii + 1) (fdr_1 ..) (cj ⟨rfl, rfl, rfl, rfl, rfl, rfl, rfl, wrap_nat64 _ (by simp; omega) (by simp; omega), rfl, Nat.le_refl _, .inl ⟨rfl, rfl⟩, rfl, Nat.le_refl _, .inl ⟨rfl, rfl⟩, rfl, Nat.le_refl _, .inl ⟨rfl, rfl⟩, hz0 (by omega), (by (apply Nat.ble_eq_true_of_le; omega)), (by (try simp [Nat.blt_eq]); omega), h1, trivial⟩) (by show ii + 1 ≤ n; omega) (by show n - (ii + 1) < n - ii; omega)
  | false =>
    have g1 := of_decide_eq_false h1
    try simp only [Int.ofNat_eq_natCast, ge_iff_le, gt_iff_lt, Int.not_lt, Int.not_le] at g1
    obtain rfl : n = ii := by omega
    refine round_exit (s0 := fdU n N E B) (T := fun i => fdT n N E B i) (i := n) (fdr_2 ..) (by simp) (cj ⟨rfl, rfl, rfl, rfl, rfl, rfl, rfl, rfl, Nat.le_refl _, .inl ⟨rfl, rfl⟩, rfl, Nat.le_refl _, .inl ⟨rfl, rfl⟩, rfl, Nat.le_refl _, .inl ⟨rfl, rfl⟩, h1, trivial⟩)
end Go.Proofs.YtljeiencnpnbkaaDoor
