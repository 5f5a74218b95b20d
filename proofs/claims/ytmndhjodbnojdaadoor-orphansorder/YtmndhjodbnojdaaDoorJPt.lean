/-
  taken: its loop.
-/
import Derived.Test.YtmndhjodbnojdaaDoorJPs
set_option linter.unusedSimpArgs false
set_option linter.unusedVariables false
namespace Go.Proofs.YtmndhjodbnojdaaDoor
open Go.Ev
theorem tklr_1 (t : Int) (S : MS) (k : Nat) (ii : Nat) : roundB ETk 2000 tklL ((tklU t S k).hp) [(4, Src.nm 5)] (tklT t S k ii) [Hint.b true, Hint.b false] (tklT t S k (ii + 1)) =
 some (Ex.norm, [(0 : Nat) = 0,
 (0 : Nat) = 0,
 t = t,
 (0 : Nat) = 0,
 (0 : Nat) = 0,
 IntKind.i64.wrap (Int.ofNat ii + 1 + 1) = Int.ofNat (ii + 1) + 1,
 (teX (tkIt S ii).n (tkIt S ii).S (tkIt S ii).o).ln = (tkIt S (ii + 1)).o.ln,
 (teX (tkIt S ii).n (tkIt S ii).S (tkIt S ii).o).h = (tkIt S (ii + 1)).o.h,
 (teX (tkIt S ii).n (tkIt S ii).S (tkIt S ii).o).sl = (tkIt S (ii + 1)).o.sl,
 (teX (tkIt S ii).n (tkIt S ii).S (tkIt S ii).o).e.slot = (tkIt S (ii + 1)).o.e.slot,
 (teX (tkIt S ii).n (tkIt S ii).S (tkIt S ii).o).e.gen = (tkIt S (ii + 1)).o.e.gen,
 (teX (tkIt S ii).n (tkIt S ii).S (tkIt S ii).o).e.mark = (tkIt S (ii + 1)).o.e.mark,
 (teX (tkIt S ii).n (tkIt S ii).S (tkIt S ii).o).e.birth = (tkIt S (ii + 1)).o.e.birth,
 (teX (tkIt S ii).n (tkIt S ii).S (tkIt S ii).o).e.epoch = (tkIt S (ii + 1)).o.e.epoch,
 (teX (tkIt S ii).n (tkIt S ii).S (tkIt S ii).o).e.era = (tkIt S (ii + 1)).o.e.era,
 (0 : Nat) = 0,
 teNX (tkIt S ii).n (tkIt S ii).o = (tkIt S (ii + 1)).n,
 (none : Option Nat) = none,
 false = false,
 (tkIt S (ii + 1)).n ≤ teNX (tkIt S ii).n (tkIt S ii).o,
 yF (tkIt S (ii + 1)).E = yF (teEX (tkIt S ii).n (fun i => yOf (yF (tkIt S ii).E i)) (tkIt S ii).S (tkIt S ii).o) ∧ plainSh ySh = true ∨ ∀ (i : Nat), i < (tkIt S (ii + 1)).n → rowOb ySh 0 (yF (teEX (tkIt S ii).n (fun i => yOf (yF (tkIt S ii).E i)) (tkIt S ii).S (tkIt S ii).o) i) (yF (tkIt S (ii + 1)).E i),
 true = true,
 (1 : Nat) ≤ (1 : Nat),
 tabF tab = tabF tab ∧ plainSh (List.map kindOfV tab) = true ∨ ∀ (i : Nat), i < 1 → rowOb (List.map kindOfV tab) 0 (tabF tab i) (tabF tab i),
 (teY (tkIt S ii).S (tkIt S ii).o).st = (tkIt S (ii + 1)).S.st,
 (teY (tkIt S ii).S (tkIt S ii).o).L.c = (tkIt S (ii + 1)).S.L.c,
 (teY (tkIt S ii).S (tkIt S ii).o).L.k = (tkIt S (ii + 1)).S.L.k,
 (teY (tkIt S ii).S (tkIt S ii).o).L.a = (tkIt S (ii + 1)).S.L.a,
 (teY (tkIt S ii).S (tkIt S ii).o).L.f = (tkIt S (ii + 1)).S.L.f,
 (teY (tkIt S ii).S (tkIt S ii).o).L.w = (tkIt S (ii + 1)).S.L.w,
 (teY (tkIt S ii).S (tkIt S ii).o).L.i = (tkIt S (ii + 1)).S.L.i,
 (teY (tkIt S ii).S (tkIt S ii).o).L.d = (tkIt S (ii + 1)).S.L.d,
 ∀ (k : List Int), (teY (tkIt S ii).S (tkIt S ii).o).M k = (tkIt S (ii + 1)).S.M k,
 decide ((teX (tkIt S ii).n (tkIt S ii).S (tkIt S ii).o).ln = 0) = false,
 tabF tab = tabF tab,
 U64 (tkIt S ii).S,
 TLn (tkIt S ii).o.ln,
 R64 (tkIt S ii).o.h,
 (tkIt S ii).n ≤ (tkIt S ii).n ∧ (tkIt S ii).n ≤ 1000000,
 decide (Int.ofNat ii + 1 < t) = true]) := by kernel_rfl
theorem tklr_2 (t : Int) (S : MS) (k : Nat) (ii : Nat) : roundB ETk 2000 tklL ((tklU t S k).hp) [(4, Src.nm 4)] (tklT t S k ii) [Hint.b false] (tklX t S k ii) =
 some (Ex.exit 0, [(0 : Nat) = 0,
 (0 : Nat) = 0,
 (0 : Nat) = 0,
 (0 : Nat) = 0,
 (tkIt S ii).o.ln = (tkIt S ii).o.ln,
 (tkIt S ii).o.h = (tkIt S ii).o.h,
 (tkIt S ii).o.sl = (tkIt S ii).o.sl,
 (tkIt S ii).o.e.slot = (tkIt S ii).o.e.slot,
 (tkIt S ii).o.e.gen = (tkIt S ii).o.e.gen,
 (tkIt S ii).o.e.mark = (tkIt S ii).o.e.mark,
 (tkIt S ii).o.e.birth = (tkIt S ii).o.e.birth,
 (tkIt S ii).o.e.epoch = (tkIt S ii).o.e.epoch,
 (tkIt S ii).o.e.era = (tkIt S ii).o.e.era,
 (0 : Nat) = 0,
 (tkIt S ii).n = (tkIt S ii).n,
 (none : Option Nat) = none,
 false = false,
 (tkIt S ii).n ≤ (tkIt S ii).n,
 yF (tkIt S ii).E = yF (tkIt S ii).E ∧ plainSh [CK.int IntKind.i64, CK.int IntKind.u32, CK.bool, CK.int IntKind.u64, CK.int IntKind.u64, CK.int IntKind.u64] = true ∨ ∀ (i : Nat), i < (tkIt S ii).n → rowOb [CK.int IntKind.i64, CK.int IntKind.u32, CK.bool, CK.int IntKind.u64, CK.int IntKind.u64, CK.int IntKind.u64] 0 (yF (tkIt S ii).E i) (yF (tkIt S ii).E i),
 true = true,
 (1 : Nat) ≤ (1 : Nat),
 tabF tab = tabF tab ∧ plainSh (List.map kindOfV tab) = true ∨ ∀ (i : Nat), i < 1 → rowOb (List.map kindOfV tab) 0 (tabF tab i) (tabF tab i),
 (tkIt S ii).S.st = (tkIt S ii).S.st,
 (tkIt S ii).S.L.c = (tkIt S ii).S.L.c,
 (tkIt S ii).S.L.k = (tkIt S ii).S.L.k,
 (tkIt S ii).S.L.a = (tkIt S ii).S.L.a,
 (tkIt S ii).S.L.f = (tkIt S ii).S.L.f,
 (tkIt S ii).S.L.w = (tkIt S ii).S.L.w,
 (tkIt S ii).S.L.i = (tkIt S ii).S.L.i,
 (tkIt S ii).S.L.d = (tkIt S ii).S.L.d,
 ∀ (k : List Int), (tkIt S ii).S.M k = (tkIt S ii).S.M k,
 decide (Int.ofNat ii + 1 < t) = false]) := by kernel_rfl
theorem tkli_1 (t : Int) (S : MS) (k : Nat) : castSt ((tklU t S k).hp) [(4, Src.nil 6)] (tklU t S k) (tklT t S k 0) =
 some ([(0 : Nat) = 0,
 (0 : Nat) = 0,
 t = t,
 (0 : Nat) = 0,
 (0 : Nat) = 0,
 (1 : Int) = 1,
 (1 : Int) = 1,
 (0 : Int) = 0,
 (0 : Int) = 0,
 (0 : Int) = 0,
 (0 : Int) = 0,
 false = (tkIt S 0).o.e.mark,
 (0 : Int) = 0,
 (0 : Int) = 0,
 (0 : Int) = 0,
 (0 : Nat) = 0,
 (0 : Nat) = 0,
 (none : Option Nat) = none,
 (0 : Nat) = 0,
 true = true,
 (1 : Nat) ≤ (1 : Nat),
 tabF tab = tabF tab ∧ plainSh (List.map kindOfV tab) = true ∨ ∀ (i : Nat), i < 1 → rowOb (List.map kindOfV tab) 0 (tabF tab i) (tabF tab i),
 S.st = (tkIt S 0).S.st,
 S.L.c = (tkIt S 0).S.L.c,
 S.L.k = (tkIt S 0).S.L.k,
 S.L.a = (tkIt S 0).S.L.a,
 S.L.f = (tkIt S 0).S.L.f,
 S.L.w = (tkIt S 0).S.L.w,
 S.L.i = (tkIt S 0).S.L.i,
 S.L.d = (tkIt S 0).S.L.d,
 ∀ (k : List Int), S.M k = (tkIt S 0).S.M k]) := by kernel_rfl
theorem tkl_lp (t : Int) (S : MS) (k : Nat) (hu : U64 S) (hk : k ≤ 1000) (ht : t = Int.ofNat (5 * k) + 2) (hno : ∀ i, 1 ≤ i → i ≤ 5 * k + 1 → ¬ (tkIt S i).o.ln = 0) : tklLP t S k := by
  refine loop_rule ETk_ok (I := Nat) (fun i => tklT t S k i) (fun i => (5 * k + 1) - i) (fun i => i ≤ (5 * k + 1)) ?_ (fun ii hi => ?_)
  ·
    refine ⟨0, [(4, Src.nil 6)], _, Nat.zero_le _, tkli_1 .., (ob_cons rfl (ob_cons rfl (ob_cons rfl (ob_cons rfl (ob_cons rfl (ob_cons rfl (ob_cons rfl (ob_cons rfl (ob_cons rfl (ob_cons rfl (ob_cons rfl (ob_cons ?_ (ob_cons rfl (ob_cons rfl (ob_cons rfl (ob_cons rfl (ob_cons rfl (ob_cons rfl (ob_cons rfl (ob_cons rfl (ob_cons (Nat.le_refl _) (ob_cons (.inl ⟨rfl, rfl⟩) (ob_cons ?_ (ob_cons ?_ (ob_cons ?_ (ob_cons ?_ (ob_cons ?_ (ob_cons ?_ (ob_cons ?_ (ob_cons ?_ (ob_cons ?_ ob_nil)))))))))))))))))))))))))))))))⟩
    · exact rfl
    · exact rfl
    · exact rfl
    · exact rfl
    · exact rfl
    · exact rfl
    · exact rfl
    · exact rfl
    · exact rfl
    · exact fun _ => rfl
  have hi : ii ≤ (5 * k + 1) := hi
  have ht2 : t = ((5 * k : Nat) : Int) + 2 := ht
  have hit := tkIt_ok hu ii
  have hn1 : (tkIt S ii).n ≤ 1000000 := by have := hit.2.2; omega
  have ex1 : IntKind.i64.wrap (Int.ofNat ii + 1 + 1) = Int.ofNat (ii + 1) + 1 := by rw [i64w (by simp; omega) (by simp; omega)]; simp
  have ex2 : ii < 5 * k + 1 → decide (Int.ofNat ii + 1 < t) = true := fun h => decide_eq_true (by rw [ht]; simp; omega)
  have ex3 : ¬ ii < 5 * k + 1 → decide (Int.ofNat ii + 1 < t) = false := fun h => decide_eq_false (by rw [ht]; simp; omega)
  cases h1 : (decide (Int.ofNat ii + 1 < t)) with
  | true =>
    have g1 := of_decide_eq_true h1
    try simp only [Int.ofNat_eq_natCast, ge_iff_le, gt_iff_lt, Int.not_lt, Int.not_le] at g1
    refine round_norm (s0 := tklU t S k) (T := fun i => tklT t S k i) (i := ii) (ii + 1) (tklr_1 ..) (ob_cons rfl (ob_cons rfl (ob_cons rfl (ob_cons rfl (ob_cons rfl (ob_cons ?_ (ob_cons ?_ (ob_cons ?_ (ob_cons ?_ (ob_cons ?_ (ob_cons ?_ (ob_cons ?_ (ob_cons ?_ (ob_cons ?_ (ob_cons ?_ (ob_cons rfl (ob_cons ?_ (ob_cons rfl (ob_cons rfl (ob_cons ?_ (ob_cons ?_ (ob_cons rfl (ob_cons (Nat.le_refl _) (ob_cons (.inl ⟨rfl, rfl⟩) (ob_cons ?_ (ob_cons ?_ (ob_cons ?_ (ob_cons ?_ (ob_cons ?_ (ob_cons ?_ (ob_cons ?_ (ob_cons ?_ (ob_cons ?_ (ob_cons ?_ (ob_cons rfl (ob_cons ?_ (ob_cons ?_ (ob_cons ?_ (ob_cons ?_ (ob_cons h1 ob_nil)))))))))))))))))))))))))))))))))))))))) (by show ii + 1 ≤ (5 * k + 1); omega) (by show (5 * k + 1) - (ii + 1) < (5 * k + 1) - ii; omega)
    · with_reducible assumption
    · exact rfl
    · exact rfl
    · exact rfl
    · exact rfl
    · exact rfl
    · exact rfl
    · exact rfl
    · exact rfl
    · exact rfl
    · exact rfl
    · exact Nat.le_refl _
    · exact .inl ⟨rfl, rfl⟩
    · exact rfl
    · exact rfl
    · exact rfl
    · exact rfl
    · exact rfl
    · exact rfl
    · exact rfl
    · exact rfl
    · exact fun _ => rfl
    · exact decide_eq_false (hno (ii + 1) (by omega) (by omega))
    · exact hit.1
    · exact hit.2.1.l
    · exact hit.2.1.h
    · exact ⟨Nat.le_refl _, hn1⟩
  | false =>
    have g1 := of_decide_eq_false h1
    try simp only [Int.ofNat_eq_natCast, ge_iff_le, gt_iff_lt, Int.not_lt, Int.not_le] at g1
    obtain rfl : (5 * k + 1) = ii := by (by_cases c : ii < 5 * k + 1; (rw [ex2 c] at h1; cases h1); omega)
    refine round_exit (s0 := tklU t S k) (T := fun i => tklT t S k i) (i := (5 * k + 1)) (tklr_2 ..) (by simp) (ob_cons rfl (ob_cons rfl (ob_cons rfl (ob_cons rfl (ob_cons rfl (ob_cons rfl (ob_cons rfl (ob_cons rfl (ob_cons rfl (ob_cons rfl (ob_cons rfl (ob_cons rfl (ob_cons rfl (ob_cons rfl (ob_cons rfl (ob_cons rfl (ob_cons rfl (ob_cons (Nat.le_refl _) (ob_cons (.inl ⟨rfl, rfl⟩) (ob_cons rfl (ob_cons (Nat.le_refl _) (ob_cons (.inl ⟨rfl, rfl⟩) (ob_cons rfl (ob_cons rfl (ob_cons rfl (ob_cons rfl (ob_cons rfl (ob_cons rfl (ob_cons rfl (ob_cons rfl (ob_cons (fun _ => rfl) (ob_cons h1 ob_nil))))))))))))))))))))))))))))))))
end Go.Proofs.YtmndhjodbnojdaaDoor
