/-
  OrphansRound: the links.
-/
import Derived.Test.YtmndhjodbnojdaaDoorJRcDef0
set_option linter.unusedSimpArgs false
set_option linter.unusedVariables false
namespace Go.Proofs.YtmndhjodbnojdaaDoor
open Go.Ev
theorem orsr_1 (m : Nat) (f : Nat → Nat → AV) (ii : Nat) : roundB EOq 2000 orsL ((orsU m f).hp) [(8, Src.nm 1841282216941579801882419204465524523121861150899223944084351394554075260477629437121839426933321088397373759821752539942684706807060533592497296769024)] (orsT m f ii) [Hint.b true] (orsT m f (ii + 1)) =
 some (Ex.norm, [(0 : Nat) = 0,
 m = m,
 (none : Option Nat) = none,
 (0 : Nat) = 0,
 (0 : Nat) = 0,
 IntKind.i64.wrap (Int.ofNat ii + 1) = Int.ofNat (ii + 1),
 (0 : Nat) = 0,
 (0 : Nat) = 0,
 (0 : Nat) = 0,
 (0 : Nat) = 0,
 true = true,
 (1 : Nat) ≤ (1 : Nat),
 tabF tab = tabF tab ∧ plainSh (List.map kindOfV tab) = true ∨ ∀ (i : Nat), i < 1 → rowOb (List.map kindOfV tab) 0 (tabF tab i) (tabF tab i),
 true = true,
 m ≤ m,
 f = f ∧ plainSh [CK.int IntKind.u8] = true ∨ ∀ (i : Nat), i < m → rowOb [CK.int IntKind.u8] 0 (f i) (f i),
 IntKind.i64.wrap ((orS m f ii).st + 1) = (orS m f (ii + 1)).st,
 (2 : Int) = 2,
 (9 : Int) = 9,
 IntKind.i64.wrap (avInt (f (0 + ii) 0)) = (orS m f (ii + 1)).L.a,
 (2 : Int) = 2,
 mget (orS m f ii).M (key 9 (IntKind.i64.wrap (avInt (f (0 + ii) 0))) 2) = (orS m f (ii + 1)).L.w,
 memIs (orS m f ii).M 9 (IntKind.i64.wrap (avInt (f (0 + ii) 0))) 2 (IntKind.u64.wrap (IntKind.u64.wrap (avInt (f (0 + ((IntKind.i64.wrap (Int.ofNat ii + 1)).tmod (Int.ofNat m)).toNat) 0)) + 1)) = (orS m f (ii + 1)).L.i,
 false = (orS m f (ii + 1)).L.d,
 ∀ (k : List Int), memPut (orS m f ii).M 9 (IntKind.i64.wrap (avInt (f (0 + ii) 0))) 2 (IntKind.u64.wrap (IntKind.u64.wrap (avInt (f (0 + ((IntKind.i64.wrap (Int.ofNat ii + 1)).tmod (Int.ofNat m)).toNat) 0)) + 1)) k = (orS m f (ii + 1)).M k,
 (0 : Nat) = 0,
 (dPut (dOf (orR m f ii).D.n (wdF (orR m f ii).D.W)) 9 (IntKind.i64.wrap (avInt (f (0 + ii) 0))) 2 (IntKind.u64.wrap (IntKind.u64.wrap (avInt (f (0 + ((IntKind.i64.wrap (Int.ofNat ii + 1)).tmod (Int.ofNat m)).toNat) 0)) + 1))).n = (orR m f (ii + 1)).D.n,
 (none : Option Nat) = none,
 IntKind.i64.wrap ((orR m f ii).st + 1) = (orR m f (ii + 1)).st,
 (2 : Int) = 2,
 (9 : Int) = 9,
 IntKind.i64.wrap (avInt (f (0 + ii) 0)) = (orR m f (ii + 1)).L.a,
 (2 : Int) = 2,
 dWord (dOf (orR m f ii).D.n (wdF (orR m f ii).D.W)) 9 (IntKind.i64.wrap (avInt (f (0 + ii) 0))) 2 = (orR m f (ii + 1)).L.w,
 dWord (dPut (dOf (orR m f ii).D.n (wdF (orR m f ii).D.W)) 9 (IntKind.i64.wrap (avInt (f (0 + ii) 0))) 2 (IntKind.u64.wrap (IntKind.u64.wrap (avInt (f (0 + ((IntKind.i64.wrap (Int.ofNat ii + 1)).tmod (Int.ofNat m)).toNat) 0)) + 1))) 9 (IntKind.i64.wrap (avInt (f (0 + ii) 0))) 2 = (orR m f (ii + 1)).L.i,
 false = (orR m f (ii + 1)).L.d,
 false = false,
 (orR m f (ii + 1)).D.n ≤ (dPut (dOf (orR m f ii).D.n (wdF (orR m f ii).D.W)) 9 (IntKind.i64.wrap (avInt (f (0 + ii) 0))) 2 (IntKind.u64.wrap (IntKind.u64.wrap (avInt (f (0 + ((IntKind.i64.wrap (Int.ofNat ii + 1)).tmod (Int.ofNat m)).toNat) 0)) + 1))).n,
 wdF (orR m f (ii + 1)).D.W = wdF (dPut (dOf (orR m f ii).D.n (wdF (orR m f ii).D.W)) 9 (IntKind.i64.wrap (avInt (f (0 + ii) 0))) 2 (IntKind.u64.wrap (IntKind.u64.wrap (avInt (f (0 + ((IntKind.i64.wrap (Int.ofNat ii + 1)).tmod (Int.ofNat m)).toNat) 0)) + 1))).W ∧ plainSh wSh = true ∨ ∀ (i : Nat), i < (orR m f (ii + 1)).D.n → rowOb wSh 0 (wdF (dPut (dOf (orR m f ii).D.n (wdF (orR m f ii).D.W)) 9 (IntKind.i64.wrap (avInt (f (0 + ii) 0))) 2 (IntKind.u64.wrap (IntKind.u64.wrap (avInt (f (0 + ((IntKind.i64.wrap (Int.ofNat ii + 1)).tmod (Int.ofNat m)).toNat) 0)) + 1))).W i) (wdF (orR m f (ii + 1)).D.W i),
 (orR m f ii).D.n ≤ (orR m f ii).D.n,
 (orR m f ii).D.n ≤ 100000,
 (0 : Int) ≤ (9 : Int),
 (0 + ii).blt m = true,
 (ii.blt m && decide (0 ≤ Int.ofNat ii)) = true,
 (0 + ((IntKind.i64.wrap (Int.ofNat ii + 1)).tmod (Int.ofNat m)).toNat).blt m = true,
 (((IntKind.i64.wrap (Int.ofNat ii + 1)).tmod (Int.ofNat m)).toNat.blt m && decide (0 ≤ (IntKind.i64.wrap (Int.ofNat ii + 1)).tmod (Int.ofNat m))) = true,
 decide (Int.ofNat m ≠ 0) = true,
 decide (Int.ofNat ii < Int.ofNat m) = true]) := by kernel_rfl
theorem orsr_2 (m : Nat) (f : Nat → Nat → AV) (ii : Nat) : roundB EOq 2000 orsL ((orsU m f).hp) [(8, Src.nm 8)] (orsT m f ii) [Hint.b false] (orsX m f ii) =
 some (Ex.exit 0, [(0 : Nat) = 0,
 m = m,
 (none : Option Nat) = none,
 (0 : Nat) = 0,
 (0 : Nat) = 0,
 (0 : Nat) = 0,
 (0 : Nat) = 0,
 (0 : Nat) = 0,
 (0 : Nat) = 0,
 true = true,
 (1 : Nat) ≤ (1 : Nat),
 tabF tab = tabF tab ∧ plainSh (List.map kindOfV tab) = true ∨ ∀ (i : Nat), i < 1 → rowOb (List.map kindOfV tab) 0 (tabF tab i) (tabF tab i),
 true = true,
 m ≤ m,
 f = f ∧ plainSh [CK.int IntKind.u8] = true ∨ ∀ (i : Nat), i < m → rowOb [CK.int IntKind.u8] 0 (f i) (f i),
 (orS m f ii).st = (orS m f ii).st,
 (orS m f ii).L.c = (orS m f ii).L.c,
 (orS m f ii).L.k = (orS m f ii).L.k,
 (orS m f ii).L.a = (orS m f ii).L.a,
 (orS m f ii).L.f = (orS m f ii).L.f,
 (orS m f ii).L.w = (orS m f ii).L.w,
 (orS m f ii).L.i = (orS m f ii).L.i,
 (orS m f ii).L.d = (orS m f ii).L.d,
 ∀ (k : List Int), (orS m f ii).M k = (orS m f ii).M k,
 (0 : Nat) = 0,
 (orR m f ii).D.n = (orR m f ii).D.n,
 (none : Option Nat) = none,
 (orR m f ii).st = (orR m f ii).st,
 (orR m f ii).L.c = (orR m f ii).L.c,
 (orR m f ii).L.k = (orR m f ii).L.k,
 (orR m f ii).L.a = (orR m f ii).L.a,
 (orR m f ii).L.f = (orR m f ii).L.f,
 (orR m f ii).L.w = (orR m f ii).L.w,
 (orR m f ii).L.i = (orR m f ii).L.i,
 (orR m f ii).L.d = (orR m f ii).L.d,
 false = false,
 (orR m f ii).D.n ≤ (orR m f ii).D.n,
 wdF (orR m f ii).D.W = wdF (orR m f ii).D.W ∧ plainSh wSh = true ∨ ∀ (i : Nat), i < (orR m f ii).D.n → rowOb wSh 0 (wdF (orR m f ii).D.W i) (wdF (orR m f ii).D.W i),
 decide (Int.ofNat ii < Int.ofNat m) = false]) := by kernel_rfl
theorem orsi_1 (m : Nat) (f : Nat → Nat → AV) : castSt ((orsU m f).hp) [(8, Src.nil 4)] (orsU m f) (orsT m f 0) =
 some ([(0 : Nat) = 0,
 m = m,
 (none : Option Nat) = none,
 (0 : Nat) = 0,
 (0 : Nat) = 0,
 (0 : Int) = 0,
 (0 : Nat) = 0,
 (0 : Nat) = 0,
 (0 : Nat) = 0,
 (0 : Nat) = 0,
 true = true,
 (1 : Nat) ≤ (1 : Nat),
 tabF tab = tabF tab ∧ plainSh (List.map kindOfV tab) = true ∨ ∀ (i : Nat), i < 1 → rowOb (List.map kindOfV tab) 0 (tabF tab i) (tabF tab i),
 true = true,
 m ≤ m,
 f = f ∧ plainSh [CK.int IntKind.u8] = true ∨ ∀ (i : Nat), i < m → rowOb [CK.int IntKind.u8] 0 (f i) (f i),
 (0 : Int) = 0,
 (0 : Int) = 0,
 (0 : Int) = 0,
 (0 : Int) = 0,
 (0 : Int) = 0,
 (0 : Int) = 0,
 (0 : Int) = 0,
 false = (orS m f 0).L.d,
 ∀ (k : List Int), none = (orS m f 0).M k,
 (0 : Nat) = 0,
 (0 : Nat) = 0,
 (none : Option Nat) = none,
 (0 : Int) = 0,
 (0 : Int) = 0,
 (0 : Int) = 0,
 (0 : Int) = 0,
 (0 : Int) = 0,
 (0 : Int) = 0,
 (0 : Int) = 0,
 false = (orR m f 0).L.d,
 (0 : Nat) = 0]) := by kernel_rfl
theorem ors_lp (m : Nat) (f : Nat → Nat → AV) (hm : m ≤ 20) (hm0 : 0 < m) : orsLP m f := by
  refine loop_rule EOq_ok (I := Nat) (fun i => orsT m f i) (fun i => m - i) (fun i => i ≤ m) ?_ (fun ii hi => ?_)
  ·
    refine ⟨0, [(8, Src.nil 4)], _, Nat.zero_le _, orsi_1 .., (ob_cons rfl (ob_cons rfl (ob_cons rfl (ob_cons rfl (ob_cons rfl (ob_cons rfl (ob_cons rfl (ob_cons rfl (ob_cons rfl (ob_cons rfl (ob_cons rfl (ob_cons (Nat.le_refl _) (ob_cons (.inl ⟨rfl, rfl⟩) (ob_cons rfl (ob_cons (Nat.le_refl _) (ob_cons (.inl ⟨rfl, rfl⟩) (ob_cons rfl (ob_cons rfl (ob_cons rfl (ob_cons rfl (ob_cons rfl (ob_cons rfl (ob_cons rfl (ob_cons ?_ (ob_cons ?_ (ob_cons rfl (ob_cons rfl (ob_cons rfl (ob_cons rfl (ob_cons rfl (ob_cons rfl (ob_cons rfl (ob_cons rfl (ob_cons rfl (ob_cons rfl (ob_cons ?_ (ob_cons rfl ob_nil)))))))))))))))))))))))))))))))))))))⟩
    · exact rfl
    · exact fun _ => rfl
    · exact rfl
  have hi : ii ≤ m := hi
  have hb := or_both m f ii
  have hn1 : (orR m f ii).D.n ≤ 100000 := by have := or_n m f ii; omega
  have ex0 : IntKind.i64.wrap (Int.ofNat ii + 1) = ((ii + 1 : Nat) : Int) := by rw [i64w (by simp; omega) (by simp; omega)]; simp
  obtain ⟨q, ex1, ex2⟩ : ∃ q : Nat, (IntKind.i64.wrap (Int.ofNat ii + 1)).tmod (Int.ofNat m) = (q : Int) ∧ q < m := ⟨(ii + 1) % m, by rw [ex0]; rfl, Nat.mod_lt _ hm0⟩
  have hi1 : (0 + ((IntKind.i64.wrap (Int.ofNat ii + 1)).tmod (Int.ofNat m)).toNat).blt m = true := by rw [ex1]; simp [Nat.blt_eq]; omega
  have hi2 : (((IntKind.i64.wrap (Int.ofNat ii + 1)).tmod (Int.ofNat m)).toNat.blt m && decide (0 ≤ (IntKind.i64.wrap (Int.ofNat ii + 1)).tmod (Int.ofNat m))) = true := by rw [ex1]; simp [Nat.blt_eq]; omega
  have hi3 : decide (Int.ofNat m ≠ 0) = true := decide_eq_true (by simp; omega)
  cases h1 : (decide (Int.ofNat ii < Int.ofNat m)) with
  | true =>
    have g1 := of_decide_eq_true h1
    try simp only [Int.ofNat_eq_natCast, ge_iff_le, gt_iff_lt, Int.not_lt, Int.not_le] at g1
    refine round_norm (s0 := orsU m f) (T := fun i => orsT m f i) (i := ii) (ii + 1) (orsr_1 ..) (ob_cons rfl (ob_cons rfl (ob_cons rfl (ob_cons rfl (ob_cons rfl (ob_cons ?_ (ob_cons rfl (ob_cons rfl (ob_cons rfl (ob_cons rfl (ob_cons rfl (ob_cons (Nat.le_refl _) (ob_cons (.inl ⟨rfl, rfl⟩) (ob_cons rfl (ob_cons (Nat.le_refl _) (ob_cons (.inl ⟨rfl, rfl⟩) (ob_cons ?_ (ob_cons rfl (ob_cons rfl (ob_cons ?_ (ob_cons rfl (ob_cons ?_ (ob_cons ?_ (ob_cons ?_ (ob_cons ?_ (ob_cons rfl (ob_cons ?_ (ob_cons rfl (ob_cons ?_ (ob_cons rfl (ob_cons rfl (ob_cons ?_ (ob_cons rfl (ob_cons ?_ (ob_cons ?_ (ob_cons ?_ (ob_cons rfl (ob_cons ?_ (ob_cons ?_ (ob_cons (Nat.le_refl _) (ob_cons ?_ (ob_cons (by decide) (ob_cons ?_ (ob_cons ?_ (ob_cons ?_ (ob_cons ?_ (ob_cons ?_ (ob_cons h1 ob_nil)))))))))))))))))))))))))))))))))))))))))))))))) (by show ii + 1 ≤ m; omega) (by show m - (ii + 1) < m - ii; omega)
    · omega
    · exact rfl
    · exact rfl
    · exact rfl
    · exact rfl
    · exact rfl
    · exact fun _ => rfl
    · exact rfl
    · exact rfl
    · exact rfl
    · exact rfl
    · exact rfl
    · exact rfl
    · exact Nat.le_refl _
    · exact .inl ⟨rfl, rfl⟩
    · with_reducible assumption
    · (simp; omega)
    · (simp; omega)
    · with_reducible assumption
    · with_reducible assumption
    · with_reducible assumption
  | false =>
    have g1 := of_decide_eq_false h1
    try simp only [Int.ofNat_eq_natCast, ge_iff_le, gt_iff_lt, Int.not_lt, Int.not_le] at g1
    obtain rfl : m = ii := by omega
    refine round_exit (s0 := orsU m f) (T := fun i => orsT m f i) (i := m) (orsr_2 ..) (by simp) (ob_cons rfl (ob_cons rfl (ob_cons rfl (ob_cons rfl (ob_cons rfl (ob_cons rfl (ob_cons rfl (ob_cons rfl (ob_cons rfl (ob_cons rfl (ob_cons (Nat.le_refl _) (ob_cons (.inl ⟨rfl, rfl⟩) (ob_cons rfl (ob_cons (Nat.le_refl _) (ob_cons (.inl ⟨rfl, rfl⟩) (ob_cons rfl (ob_cons rfl (ob_cons rfl (ob_cons rfl (ob_cons rfl (ob_cons rfl (ob_cons rfl (ob_cons rfl (ob_cons (fun _ => rfl) (ob_cons rfl (ob_cons rfl (ob_cons rfl (ob_cons rfl (ob_cons rfl (ob_cons rfl (ob_cons rfl (ob_cons rfl (ob_cons rfl (ob_cons rfl (ob_cons rfl (ob_cons rfl (ob_cons (Nat.le_refl _) (ob_cons (.inl ⟨rfl, rfl⟩) (ob_cons h1 ob_nil)))))))))))))))))))))))))))))))))))))))
end Go.Proofs.YtmndhjodbnojdaaDoor
