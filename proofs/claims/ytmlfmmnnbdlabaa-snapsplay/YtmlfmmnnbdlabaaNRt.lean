/-
  Chapter 14: the document's Taker at a word: ways.
-/
import Derived.Test.YtmlfmmnnbdlabaaNRtDef
set_option linter.unusedSimpArgs false
set_option linter.unusedVariables false
namespace Go.Proofs.Ytmlfmmnnbdlabaa
open Go.Ev
theorem rt1_1 (b fl2 s2 : Int) (L2 : LS) (n n2 k l : Nat) (g F F2 : Nat → Nat → AV) : callB EP0 3000 40 [AV.ptr 1 0 0, AV.ptr 3 0 0] (rt1H b fl2 s2 L2 n n2 k l g F F2) (rt1R b fl2 s2 L2 n n2 k l g F F2) [(5, Src.nm 2)] [Hint.b false, Hint.k 2, Hint.b false, Hint.b false] =
 some ([(0 : Nat) = 0,
 n = n2,
 (none : Option Nat) = none,
 b = b,
 2 = fl2,
 false = false,
 n2 ≤ n,
 F2 = upd F (0 + (IntKind.i64.wrap (Int.ofNat n - 1)).toNat) 1 (AV.sym IntKind.u64 (dWord (dOf k g) 8 (IntKind.i64.wrap (Int.ofNat n - 1)) 1)).cells ∧ plainSh tSh = true ∨ ∀ (i : Nat), i < n2 → rowOb tSh 0 (upd F (0 + (IntKind.i64.wrap (Int.ofNat n - 1)).toNat) 1 (AV.sym IntKind.u64 (dWord (dOf k g) 8 (IntKind.i64.wrap (Int.ofNat n - 1)) 1)).cells i) (F2 i),
 (0 : Nat) = 0,
 k = k,
 (none : Option Nat) = none,
 IntKind.i64.wrap (s2 + 1) = (rLoad (mkR k g s2 L2) 8 (Int.ofNat (n2 - 1)) 1).st,
 (1 : Int) = 1,
 (8 : Int) = 8,
 IntKind.i64.wrap (Int.ofNat n - 1) = (rLoad (mkR k g s2 L2) 8 (Int.ofNat (n2 - 1)) 1).L.a,
 (1 : Int) = 1,
 dWord (dOf k g) 8 (IntKind.i64.wrap (Int.ofNat n - 1)) 1 = (rLoad (mkR k g s2 L2) 8 (Int.ofNat (n2 - 1)) 1).L.w,
 dWord (dOf k g) 8 (IntKind.i64.wrap (Int.ofNat n - 1)) 1 = (rLoad (mkR k g s2 L2) 8 (Int.ofNat (n2 - 1)) 1).L.i,
 false = (rLoad (mkR k g s2 L2) 8 (Int.ofNat (n2 - 1)) 1).L.d,
 false = false,
 l ≤ l,
 g = g ∧ plainSh wSh = true ∨ ∀ (i : Nat), i < l → rowOb wSh 0 (g i) (g i),
 ((2 : Int) == (0 : Int)) = false,
 (avInt (upd F (0 + (IntKind.i64.wrap (Int.ofNat n - 1)).toNat) 1 (AV.sym IntKind.u64 (dWord (dOf k g) 8 (IntKind.i64.wrap (Int.ofNat n - 1)) 1)).cells (0 + (IntKind.i64.wrap (Int.ofNat n - 1)).toNat) 0) == 0) = false,
 (0 + (IntKind.i64.wrap (Int.ofNat n - 1)).toNat).blt n = true,
 (0 + (IntKind.i64.wrap (Int.ofNat n - 1)).toNat).blt n = true,
 ((IntKind.i64.wrap (Int.ofNat n - 1)).toNat.blt n && decide (0 ≤ IntKind.i64.wrap (Int.ofNat n - 1))) = true,
 k ≤ l,
 k ≤ 1000000,
 ((1 : Int) == (0 : Int)) = false]) := by kernel_rfl
theorem rt1_loc (b fl2 s2 : Int) (L2 : LS) (n n2 k l : Nat) (g F F2 : Nat → Nat → AV) : LocOk Try.prog 40 [.ptr 1 0 0, .ptr 3 0 0] (rt1H b fl2 s2 L2 n n2 k l g F F2) (rt1R b fl2 s2 L2 n n2 k l g F F2) := by
  refine loc_of_call EP0_ok (fun hp => ?_)
  have hpp : RtPre b 1 fl2 n n2 k l g F F2 := hp _ (List.mem_cons_self ..)
  clear hp
  obtain ⟨e, hn⟩ := hpp.n1 (by decide)
  have hm := hpp.nm
  have hkm := hpp.km
  have hbb := hpp.bb
  have hw := rt_wrap hn (by omega)
  have hw2 : IntKind.i64.wrap (Int.ofNat n - 1) = Int.ofNat (n2 - 1) := by rw [e]; exact hw
  have hu := rt_upd hpp (by decide)
  have hO := rt_own hpp (by decide)
  have hd : dWord (dOf k g) 8 (IntKind.i64.wrap (Int.ofNat n - 1)) 1 = dWord (dOf k g) 8 (Int.ofNat (n2 - 1)) 1 := by rw [hw2]
  have hz : (avInt (upd F (0 + (IntKind.i64.wrap (Int.ofNat n - 1)).toNat) 1 [AV.sym .u64 (dWord (dOf k g) 8 (IntKind.i64.wrap (Int.ofNat n - 1)) 1)] (0 + (IntKind.i64.wrap (Int.ofNat n - 1)).toNat) 0) == 0) = false := by
    have hu2 : upd F (0 + (IntKind.i64.wrap (Int.ofNat n - 1)).toNat) 1 [AV.sym .u64 (dWord (dOf k g) 8 (IntKind.i64.wrap (Int.ofNat n - 1)) 1)] = F2 := hu.symm
    rw [hu2, hw, Nat.zero_add]
    exact beq_eq_false_iff_ne.2 hO
  have hb1 : ((IntKind.i64.wrap (Int.ofNat n - 1)).toNat.blt n && decide (0 ≤ IntKind.i64.wrap (Int.ofNat n - 1))) = true := by
    rw [hw, Bool.and_eq_true]; exact ⟨Nat.ble_eq_true_of_le (show (Int.ofNat (n - 1)).toNat + 1 ≤ n by show n - 1 + 1 ≤ n; omega), decide_eq_true (by simp)⟩
  have hb2 : (0 + (IntKind.i64.wrap (Int.ofNat n - 1)).toNat).blt n = true := by
    rw [hw, Nat.zero_add]; exact Nat.ble_eq_true_of_le (show (Int.ofNat (n - 1)).toNat + 1 ≤ n by show n - 1 + 1 ≤ n; omega)
  have hb3 : n ≤ n2 := by omega
  have hfl2 : 2 = fl2 := by rw [hpp.fl2, e, if_neg (fun q => q.elim hO (by decide))] <;> rfl

  refine ⟨3000, _, _, _, rt1_1 .., (ob_cons rfl (ob_cons ?_ (ob_cons rfl (ob_cons rfl (ob_cons ?_ (ob_cons rfl (ob_cons ?_ (ob_cons ?_ (ob_cons rfl (ob_cons rfl (ob_cons rfl (ob_cons ?_ (ob_cons rfl (ob_cons rfl (ob_cons ?_ (ob_cons rfl (ob_cons ?_ (ob_cons ?_ (ob_cons ?_ (ob_cons rfl (ob_cons (Nat.le_refl _) (ob_cons (.inl ⟨rfl, rfl⟩) (ob_cons ?_ (ob_cons ?_ (ob_cons ?_ (ob_cons ?_ (ob_cons ?_ (ob_cons ?_ (ob_cons ?_ (ob_cons ?_ ob_nil))))))))))))))))))))))))))))))⟩
  · exact e.symm
  · exact hfl2
  · omega
  · exact .inl ⟨hu, rfl⟩
  · exact rfl
  · exact hw2
  · exact hd
  · exact hd
  · exact rfl
  · exact rfl
  · exact hz
  · exact hb2
  · exact hb2
  · exact hb1
  · exact hpp.kl
  · omega
  · exact rfl
theorem rt2_1 (b fl2 s2 : Int) (L2 : LS) (n n2 k l : Nat) (g F F2 : Nat → Nat → AV) : callB EP0 3000 40 [AV.ptr 1 0 0, AV.ptr 3 0 0] (rt2H b fl2 s2 L2 n n2 k l g F F2) (rt2R b fl2 s2 L2 n n2 k l g F F2) [(5, Src.nm 2)] [Hint.b false, Hint.k 3, Hint.b false, Hint.b false] =
 some ([(0 : Nat) = 0,
 n = n2,
 (none : Option Nat) = none,
 b = b,
 3 = fl2,
 false = false,
 n2 ≤ n,
 F2 = upd F (0 + (IntKind.i64.wrap (Int.ofNat n - 1)).toNat) 2 (AV.sym IntKind.u64 (dWord (dOf k g) 8 (IntKind.i64.wrap (Int.ofNat n - 1)) 2)).cells ∧ plainSh tSh = true ∨ ∀ (i : Nat), i < n2 → rowOb tSh 0 (upd F (0 + (IntKind.i64.wrap (Int.ofNat n - 1)).toNat) 2 (AV.sym IntKind.u64 (dWord (dOf k g) 8 (IntKind.i64.wrap (Int.ofNat n - 1)) 2)).cells i) (F2 i),
 (0 : Nat) = 0,
 k = k,
 (none : Option Nat) = none,
 IntKind.i64.wrap (s2 + 1) = (rLoad (mkR k g s2 L2) 8 (Int.ofNat (n2 - 1)) 2).st,
 (1 : Int) = 1,
 (8 : Int) = 8,
 IntKind.i64.wrap (Int.ofNat n - 1) = (rLoad (mkR k g s2 L2) 8 (Int.ofNat (n2 - 1)) 2).L.a,
 (2 : Int) = 2,
 dWord (dOf k g) 8 (IntKind.i64.wrap (Int.ofNat n - 1)) 2 = (rLoad (mkR k g s2 L2) 8 (Int.ofNat (n2 - 1)) 2).L.w,
 dWord (dOf k g) 8 (IntKind.i64.wrap (Int.ofNat n - 1)) 2 = (rLoad (mkR k g s2 L2) 8 (Int.ofNat (n2 - 1)) 2).L.i,
 false = (rLoad (mkR k g s2 L2) 8 (Int.ofNat (n2 - 1)) 2).L.d,
 false = false,
 l ≤ l,
 g = g ∧ plainSh wSh = true ∨ ∀ (i : Nat), i < l → rowOb wSh 0 (g i) (g i),
 ((3 : Int) == (0 : Int)) = false,
 (avInt (upd F (0 + (IntKind.i64.wrap (Int.ofNat n - 1)).toNat) 2 (AV.sym IntKind.u64 (dWord (dOf k g) 8 (IntKind.i64.wrap (Int.ofNat n - 1)) 2)).cells (0 + (IntKind.i64.wrap (Int.ofNat n - 1)).toNat) 0) == 0) = false,
 (0 + (IntKind.i64.wrap (Int.ofNat n - 1)).toNat).blt n = true,
 (0 + (IntKind.i64.wrap (Int.ofNat n - 1)).toNat).blt n = true,
 ((IntKind.i64.wrap (Int.ofNat n - 1)).toNat.blt n && decide (0 ≤ IntKind.i64.wrap (Int.ofNat n - 1))) = true,
 k ≤ l,
 k ≤ 1000000,
 ((2 : Int) == (0 : Int)) = false]) := by kernel_rfl
theorem rt2_loc (b fl2 s2 : Int) (L2 : LS) (n n2 k l : Nat) (g F F2 : Nat → Nat → AV) : LocOk Try.prog 40 [.ptr 1 0 0, .ptr 3 0 0] (rt2H b fl2 s2 L2 n n2 k l g F F2) (rt2R b fl2 s2 L2 n n2 k l g F F2) := by
  refine loc_of_call EP0_ok (fun hp => ?_)
  have hpp : RtPre b 2 fl2 n n2 k l g F F2 := hp _ (List.mem_cons_self ..)
  clear hp
  obtain ⟨e, hn⟩ := hpp.n1 (by decide)
  have hm := hpp.nm
  have hkm := hpp.km
  have hbb := hpp.bb
  have hw := rt_wrap hn (by omega)
  have hw2 : IntKind.i64.wrap (Int.ofNat n - 1) = Int.ofNat (n2 - 1) := by rw [e]; exact hw
  have hu := rt_upd hpp (by decide)
  have hO := rt_own hpp (by decide)
  have hd : dWord (dOf k g) 8 (IntKind.i64.wrap (Int.ofNat n - 1)) 2 = dWord (dOf k g) 8 (Int.ofNat (n2 - 1)) 2 := by rw [hw2]
  have hz : (avInt (upd F (0 + (IntKind.i64.wrap (Int.ofNat n - 1)).toNat) 2 [AV.sym .u64 (dWord (dOf k g) 8 (IntKind.i64.wrap (Int.ofNat n - 1)) 2)] (0 + (IntKind.i64.wrap (Int.ofNat n - 1)).toNat) 0) == 0) = false := by
    have hu2 : upd F (0 + (IntKind.i64.wrap (Int.ofNat n - 1)).toNat) 2 [AV.sym .u64 (dWord (dOf k g) 8 (IntKind.i64.wrap (Int.ofNat n - 1)) 2)] = F2 := hu.symm
    rw [hu2, hw, Nat.zero_add]
    exact beq_eq_false_iff_ne.2 hO
  have hb1 : ((IntKind.i64.wrap (Int.ofNat n - 1)).toNat.blt n && decide (0 ≤ IntKind.i64.wrap (Int.ofNat n - 1))) = true := by
    rw [hw, Bool.and_eq_true]; exact ⟨Nat.ble_eq_true_of_le (show (Int.ofNat (n - 1)).toNat + 1 ≤ n by show n - 1 + 1 ≤ n; omega), decide_eq_true (by simp)⟩
  have hb2 : (0 + (IntKind.i64.wrap (Int.ofNat n - 1)).toNat).blt n = true := by
    rw [hw, Nat.zero_add]; exact Nat.ble_eq_true_of_le (show (Int.ofNat (n - 1)).toNat + 1 ≤ n by show n - 1 + 1 ≤ n; omega)
  have hb3 : n ≤ n2 := by omega
  have hfl2 : 3 = fl2 := by rw [hpp.fl2, e, if_neg (fun q => q.elim hO (by decide))] <;> rfl

  refine ⟨3000, _, _, _, rt2_1 .., (ob_cons rfl (ob_cons ?_ (ob_cons rfl (ob_cons rfl (ob_cons ?_ (ob_cons rfl (ob_cons ?_ (ob_cons ?_ (ob_cons rfl (ob_cons rfl (ob_cons rfl (ob_cons ?_ (ob_cons rfl (ob_cons rfl (ob_cons ?_ (ob_cons rfl (ob_cons ?_ (ob_cons ?_ (ob_cons ?_ (ob_cons rfl (ob_cons (Nat.le_refl _) (ob_cons (.inl ⟨rfl, rfl⟩) (ob_cons ?_ (ob_cons ?_ (ob_cons ?_ (ob_cons ?_ (ob_cons ?_ (ob_cons ?_ (ob_cons ?_ (ob_cons ?_ ob_nil))))))))))))))))))))))))))))))⟩
  · exact e.symm
  · exact hfl2
  · omega
  · exact .inl ⟨hu, rfl⟩
  · exact rfl
  · exact hw2
  · exact hd
  · exact hd
  · exact rfl
  · exact rfl
  · exact hz
  · exact hb2
  · exact hb2
  · exact hb1
  · exact hpp.kl
  · omega
  · exact rfl
theorem rt3_1 (b fl2 s2 : Int) (L2 : LS) (n n2 k l : Nat) (g F F2 : Nat → Nat → AV) : callB EP0 3000 40 [AV.ptr 1 0 0, AV.ptr 3 0 0] (rt3H b fl2 s2 L2 n n2 k l g F F2) (rt3R b fl2 s2 L2 n n2 k l g F F2) [(5, Src.nm 2)] [Hint.b false, Hint.k 4, Hint.b false, Hint.b false] =
 some ([(0 : Nat) = 0,
 n = n2,
 (none : Option Nat) = none,
 b = b,
 4 = fl2,
 false = false,
 n2 ≤ n,
 F2 = upd F (0 + (IntKind.i64.wrap (Int.ofNat n - 1)).toNat) 3 (AV.sym IntKind.u64 (dWord (dOf k g) 8 (IntKind.i64.wrap (Int.ofNat n - 1)) 3)).cells ∧ plainSh tSh = true ∨ ∀ (i : Nat), i < n2 → rowOb tSh 0 (upd F (0 + (IntKind.i64.wrap (Int.ofNat n - 1)).toNat) 3 (AV.sym IntKind.u64 (dWord (dOf k g) 8 (IntKind.i64.wrap (Int.ofNat n - 1)) 3)).cells i) (F2 i),
 (0 : Nat) = 0,
 k = k,
 (none : Option Nat) = none,
 IntKind.i64.wrap (s2 + 1) = (rLoad (mkR k g s2 L2) 8 (Int.ofNat (n2 - 1)) 3).st,
 (1 : Int) = 1,
 (8 : Int) = 8,
 IntKind.i64.wrap (Int.ofNat n - 1) = (rLoad (mkR k g s2 L2) 8 (Int.ofNat (n2 - 1)) 3).L.a,
 (3 : Int) = 3,
 dWord (dOf k g) 8 (IntKind.i64.wrap (Int.ofNat n - 1)) 3 = (rLoad (mkR k g s2 L2) 8 (Int.ofNat (n2 - 1)) 3).L.w,
 dWord (dOf k g) 8 (IntKind.i64.wrap (Int.ofNat n - 1)) 3 = (rLoad (mkR k g s2 L2) 8 (Int.ofNat (n2 - 1)) 3).L.i,
 false = (rLoad (mkR k g s2 L2) 8 (Int.ofNat (n2 - 1)) 3).L.d,
 false = false,
 l ≤ l,
 g = g ∧ plainSh wSh = true ∨ ∀ (i : Nat), i < l → rowOb wSh 0 (g i) (g i),
 ((4 : Int) == (0 : Int)) = false,
 (avInt (upd F (0 + (IntKind.i64.wrap (Int.ofNat n - 1)).toNat) 3 (AV.sym IntKind.u64 (dWord (dOf k g) 8 (IntKind.i64.wrap (Int.ofNat n - 1)) 3)).cells (0 + (IntKind.i64.wrap (Int.ofNat n - 1)).toNat) 0) == 0) = false,
 (0 + (IntKind.i64.wrap (Int.ofNat n - 1)).toNat).blt n = true,
 (0 + (IntKind.i64.wrap (Int.ofNat n - 1)).toNat).blt n = true,
 ((IntKind.i64.wrap (Int.ofNat n - 1)).toNat.blt n && decide (0 ≤ IntKind.i64.wrap (Int.ofNat n - 1))) = true,
 k ≤ l,
 k ≤ 1000000,
 ((3 : Int) == (0 : Int)) = false]) := by kernel_rfl
theorem rt3_loc (b fl2 s2 : Int) (L2 : LS) (n n2 k l : Nat) (g F F2 : Nat → Nat → AV) : LocOk Try.prog 40 [.ptr 1 0 0, .ptr 3 0 0] (rt3H b fl2 s2 L2 n n2 k l g F F2) (rt3R b fl2 s2 L2 n n2 k l g F F2) := by
  refine loc_of_call EP0_ok (fun hp => ?_)
  have hpp : RtPre b 3 fl2 n n2 k l g F F2 := hp _ (List.mem_cons_self ..)
  clear hp
  obtain ⟨e, hn⟩ := hpp.n1 (by decide)
  have hm := hpp.nm
  have hkm := hpp.km
  have hbb := hpp.bb
  have hw := rt_wrap hn (by omega)
  have hw2 : IntKind.i64.wrap (Int.ofNat n - 1) = Int.ofNat (n2 - 1) := by rw [e]; exact hw
  have hu := rt_upd hpp (by decide)
  have hO := rt_own hpp (by decide)
  have hd : dWord (dOf k g) 8 (IntKind.i64.wrap (Int.ofNat n - 1)) 3 = dWord (dOf k g) 8 (Int.ofNat (n2 - 1)) 3 := by rw [hw2]
  have hz : (avInt (upd F (0 + (IntKind.i64.wrap (Int.ofNat n - 1)).toNat) 3 [AV.sym .u64 (dWord (dOf k g) 8 (IntKind.i64.wrap (Int.ofNat n - 1)) 3)] (0 + (IntKind.i64.wrap (Int.ofNat n - 1)).toNat) 0) == 0) = false := by
    have hu2 : upd F (0 + (IntKind.i64.wrap (Int.ofNat n - 1)).toNat) 3 [AV.sym .u64 (dWord (dOf k g) 8 (IntKind.i64.wrap (Int.ofNat n - 1)) 3)] = F2 := hu.symm
    rw [hu2, hw, Nat.zero_add]
    exact beq_eq_false_iff_ne.2 hO
  have hb1 : ((IntKind.i64.wrap (Int.ofNat n - 1)).toNat.blt n && decide (0 ≤ IntKind.i64.wrap (Int.ofNat n - 1))) = true := by
    rw [hw, Bool.and_eq_true]; exact ⟨Nat.ble_eq_true_of_le (show (Int.ofNat (n - 1)).toNat + 1 ≤ n by show n - 1 + 1 ≤ n; omega), decide_eq_true (by simp)⟩
  have hb2 : (0 + (IntKind.i64.wrap (Int.ofNat n - 1)).toNat).blt n = true := by
    rw [hw, Nat.zero_add]; exact Nat.ble_eq_true_of_le (show (Int.ofNat (n - 1)).toNat + 1 ≤ n by show n - 1 + 1 ≤ n; omega)
  have hb3 : n ≤ n2 := by omega
  have hfl2 : 4 = fl2 := by rw [hpp.fl2, e, if_neg (fun q => q.elim hO (by decide))] <;> rfl

  refine ⟨3000, _, _, _, rt3_1 .., (ob_cons rfl (ob_cons ?_ (ob_cons rfl (ob_cons rfl (ob_cons ?_ (ob_cons rfl (ob_cons ?_ (ob_cons ?_ (ob_cons rfl (ob_cons rfl (ob_cons rfl (ob_cons ?_ (ob_cons rfl (ob_cons rfl (ob_cons ?_ (ob_cons rfl (ob_cons ?_ (ob_cons ?_ (ob_cons ?_ (ob_cons rfl (ob_cons (Nat.le_refl _) (ob_cons (.inl ⟨rfl, rfl⟩) (ob_cons ?_ (ob_cons ?_ (ob_cons ?_ (ob_cons ?_ (ob_cons ?_ (ob_cons ?_ (ob_cons ?_ (ob_cons ?_ ob_nil))))))))))))))))))))))))))))))⟩
  · exact e.symm
  · exact hfl2
  · omega
  · exact .inl ⟨hu, rfl⟩
  · exact rfl
  · exact hw2
  · exact hd
  · exact hd
  · exact rfl
  · exact rfl
  · exact hz
  · exact hb2
  · exact hb2
  · exact hb1
  · exact hpp.kl
  · omega
  · exact rfl
theorem rt4_1 (b fl2 s2 : Int) (L2 : LS) (n n2 k l : Nat) (g F F2 : Nat → Nat → AV) : callB EP0 3000 40 [AV.ptr 1 0 0, AV.ptr 3 0 0] (rt4H b fl2 s2 L2 n n2 k l g F F2) (rt4R b fl2 s2 L2 n n2 k l g F F2) [(5, Src.nm 2)] [Hint.b false, Hint.k 5, Hint.b false, Hint.b false] =
 some ([(0 : Nat) = 0,
 n = n2,
 (none : Option Nat) = none,
 b = b,
 5 = fl2,
 false = false,
 n2 ≤ n,
 F2 = upd F (0 + (IntKind.i64.wrap (Int.ofNat n - 1)).toNat) 4 (AV.sym IntKind.u64 (dWord (dOf k g) 8 (IntKind.i64.wrap (Int.ofNat n - 1)) 4)).cells ∧ plainSh tSh = true ∨ ∀ (i : Nat), i < n2 → rowOb tSh 0 (upd F (0 + (IntKind.i64.wrap (Int.ofNat n - 1)).toNat) 4 (AV.sym IntKind.u64 (dWord (dOf k g) 8 (IntKind.i64.wrap (Int.ofNat n - 1)) 4)).cells i) (F2 i),
 (0 : Nat) = 0,
 k = k,
 (none : Option Nat) = none,
 IntKind.i64.wrap (s2 + 1) = (rLoad (mkR k g s2 L2) 8 (Int.ofNat (n2 - 1)) 4).st,
 (1 : Int) = 1,
 (8 : Int) = 8,
 IntKind.i64.wrap (Int.ofNat n - 1) = (rLoad (mkR k g s2 L2) 8 (Int.ofNat (n2 - 1)) 4).L.a,
 (4 : Int) = 4,
 dWord (dOf k g) 8 (IntKind.i64.wrap (Int.ofNat n - 1)) 4 = (rLoad (mkR k g s2 L2) 8 (Int.ofNat (n2 - 1)) 4).L.w,
 dWord (dOf k g) 8 (IntKind.i64.wrap (Int.ofNat n - 1)) 4 = (rLoad (mkR k g s2 L2) 8 (Int.ofNat (n2 - 1)) 4).L.i,
 false = (rLoad (mkR k g s2 L2) 8 (Int.ofNat (n2 - 1)) 4).L.d,
 false = false,
 l ≤ l,
 g = g ∧ plainSh wSh = true ∨ ∀ (i : Nat), i < l → rowOb wSh 0 (g i) (g i),
 ((5 : Int) == (0 : Int)) = false,
 (avInt (upd F (0 + (IntKind.i64.wrap (Int.ofNat n - 1)).toNat) 4 (AV.sym IntKind.u64 (dWord (dOf k g) 8 (IntKind.i64.wrap (Int.ofNat n - 1)) 4)).cells (0 + (IntKind.i64.wrap (Int.ofNat n - 1)).toNat) 0) == 0) = false,
 (0 + (IntKind.i64.wrap (Int.ofNat n - 1)).toNat).blt n = true,
 (0 + (IntKind.i64.wrap (Int.ofNat n - 1)).toNat).blt n = true,
 ((IntKind.i64.wrap (Int.ofNat n - 1)).toNat.blt n && decide (0 ≤ IntKind.i64.wrap (Int.ofNat n - 1))) = true,
 k ≤ l,
 k ≤ 1000000,
 ((4 : Int) == (0 : Int)) = false]) := by kernel_rfl
theorem rt4_loc (b fl2 s2 : Int) (L2 : LS) (n n2 k l : Nat) (g F F2 : Nat → Nat → AV) : LocOk Try.prog 40 [.ptr 1 0 0, .ptr 3 0 0] (rt4H b fl2 s2 L2 n n2 k l g F F2) (rt4R b fl2 s2 L2 n n2 k l g F F2) := by
  refine loc_of_call EP0_ok (fun hp => ?_)
  have hpp : RtPre b 4 fl2 n n2 k l g F F2 := hp _ (List.mem_cons_self ..)
  clear hp
  obtain ⟨e, hn⟩ := hpp.n1 (by decide)
  have hm := hpp.nm
  have hkm := hpp.km
  have hbb := hpp.bb
  have hw := rt_wrap hn (by omega)
  have hw2 : IntKind.i64.wrap (Int.ofNat n - 1) = Int.ofNat (n2 - 1) := by rw [e]; exact hw
  have hu := rt_upd hpp (by decide)
  have hO := rt_own hpp (by decide)
  have hd : dWord (dOf k g) 8 (IntKind.i64.wrap (Int.ofNat n - 1)) 4 = dWord (dOf k g) 8 (Int.ofNat (n2 - 1)) 4 := by rw [hw2]
  have hz : (avInt (upd F (0 + (IntKind.i64.wrap (Int.ofNat n - 1)).toNat) 4 [AV.sym .u64 (dWord (dOf k g) 8 (IntKind.i64.wrap (Int.ofNat n - 1)) 4)] (0 + (IntKind.i64.wrap (Int.ofNat n - 1)).toNat) 0) == 0) = false := by
    have hu2 : upd F (0 + (IntKind.i64.wrap (Int.ofNat n - 1)).toNat) 4 [AV.sym .u64 (dWord (dOf k g) 8 (IntKind.i64.wrap (Int.ofNat n - 1)) 4)] = F2 := hu.symm
    rw [hu2, hw, Nat.zero_add]
    exact beq_eq_false_iff_ne.2 hO
  have hb1 : ((IntKind.i64.wrap (Int.ofNat n - 1)).toNat.blt n && decide (0 ≤ IntKind.i64.wrap (Int.ofNat n - 1))) = true := by
    rw [hw, Bool.and_eq_true]; exact ⟨Nat.ble_eq_true_of_le (show (Int.ofNat (n - 1)).toNat + 1 ≤ n by show n - 1 + 1 ≤ n; omega), decide_eq_true (by simp)⟩
  have hb2 : (0 + (IntKind.i64.wrap (Int.ofNat n - 1)).toNat).blt n = true := by
    rw [hw, Nat.zero_add]; exact Nat.ble_eq_true_of_le (show (Int.ofNat (n - 1)).toNat + 1 ≤ n by show n - 1 + 1 ≤ n; omega)
  have hb3 : n ≤ n2 := by omega
  have hfl2 : 5 = fl2 := by rw [hpp.fl2, e, if_neg (fun q => q.elim hO (by decide))] <;> rfl

  refine ⟨3000, _, _, _, rt4_1 .., (ob_cons rfl (ob_cons ?_ (ob_cons rfl (ob_cons rfl (ob_cons ?_ (ob_cons rfl (ob_cons ?_ (ob_cons ?_ (ob_cons rfl (ob_cons rfl (ob_cons rfl (ob_cons ?_ (ob_cons rfl (ob_cons rfl (ob_cons ?_ (ob_cons rfl (ob_cons ?_ (ob_cons ?_ (ob_cons ?_ (ob_cons rfl (ob_cons (Nat.le_refl _) (ob_cons (.inl ⟨rfl, rfl⟩) (ob_cons ?_ (ob_cons ?_ (ob_cons ?_ (ob_cons ?_ (ob_cons ?_ (ob_cons ?_ (ob_cons ?_ (ob_cons ?_ ob_nil))))))))))))))))))))))))))))))⟩
  · exact e.symm
  · exact hfl2
  · omega
  · exact .inl ⟨hu, rfl⟩
  · exact rfl
  · exact hw2
  · exact hd
  · exact hd
  · exact rfl
  · exact rfl
  · exact hz
  · exact hb2
  · exact hb2
  · exact hb1
  · exact hpp.kl
  · omega
  · exact rfl
theorem rt5_1 (b fl2 s2 : Int) (L2 : LS) (n n2 k l : Nat) (g F F2 : Nat → Nat → AV) : callB EP0 3000 40 [AV.ptr 1 0 0, AV.ptr 3 0 0] (rt5H b fl2 s2 L2 n n2 k l g F F2) (rt5R b fl2 s2 L2 n n2 k l g F F2) [(5, Src.nm 2)] [Hint.b false, Hint.k 6, Hint.b false, Hint.b false] =
 some ([(0 : Nat) = 0,
 n = n2,
 (none : Option Nat) = none,
 b = b,
 6 = fl2,
 false = false,
 n2 ≤ n,
 F2 = upd F (0 + (IntKind.i64.wrap (Int.ofNat n - 1)).toNat) 5 (AV.sym IntKind.u64 (dWord (dOf k g) 8 (IntKind.i64.wrap (Int.ofNat n - 1)) 5)).cells ∧ plainSh tSh = true ∨ ∀ (i : Nat), i < n2 → rowOb tSh 0 (upd F (0 + (IntKind.i64.wrap (Int.ofNat n - 1)).toNat) 5 (AV.sym IntKind.u64 (dWord (dOf k g) 8 (IntKind.i64.wrap (Int.ofNat n - 1)) 5)).cells i) (F2 i),
 (0 : Nat) = 0,
 k = k,
 (none : Option Nat) = none,
 IntKind.i64.wrap (s2 + 1) = (rLoad (mkR k g s2 L2) 8 (Int.ofNat (n2 - 1)) 5).st,
 (1 : Int) = 1,
 (8 : Int) = 8,
 IntKind.i64.wrap (Int.ofNat n - 1) = (rLoad (mkR k g s2 L2) 8 (Int.ofNat (n2 - 1)) 5).L.a,
 (5 : Int) = 5,
 dWord (dOf k g) 8 (IntKind.i64.wrap (Int.ofNat n - 1)) 5 = (rLoad (mkR k g s2 L2) 8 (Int.ofNat (n2 - 1)) 5).L.w,
 dWord (dOf k g) 8 (IntKind.i64.wrap (Int.ofNat n - 1)) 5 = (rLoad (mkR k g s2 L2) 8 (Int.ofNat (n2 - 1)) 5).L.i,
 false = (rLoad (mkR k g s2 L2) 8 (Int.ofNat (n2 - 1)) 5).L.d,
 false = false,
 l ≤ l,
 g = g ∧ plainSh wSh = true ∨ ∀ (i : Nat), i < l → rowOb wSh 0 (g i) (g i),
 ((6 : Int) == (0 : Int)) = false,
 (avInt (upd F (0 + (IntKind.i64.wrap (Int.ofNat n - 1)).toNat) 5 (AV.sym IntKind.u64 (dWord (dOf k g) 8 (IntKind.i64.wrap (Int.ofNat n - 1)) 5)).cells (0 + (IntKind.i64.wrap (Int.ofNat n - 1)).toNat) 0) == 0) = false,
 (0 + (IntKind.i64.wrap (Int.ofNat n - 1)).toNat).blt n = true,
 (0 + (IntKind.i64.wrap (Int.ofNat n - 1)).toNat).blt n = true,
 ((IntKind.i64.wrap (Int.ofNat n - 1)).toNat.blt n && decide (0 ≤ IntKind.i64.wrap (Int.ofNat n - 1))) = true,
 k ≤ l,
 k ≤ 1000000,
 ((5 : Int) == (0 : Int)) = false]) := by kernel_rfl
theorem rt5_loc (b fl2 s2 : Int) (L2 : LS) (n n2 k l : Nat) (g F F2 : Nat → Nat → AV) : LocOk Try.prog 40 [.ptr 1 0 0, .ptr 3 0 0] (rt5H b fl2 s2 L2 n n2 k l g F F2) (rt5R b fl2 s2 L2 n n2 k l g F F2) := by
  refine loc_of_call EP0_ok (fun hp => ?_)
  have hpp : RtPre b 5 fl2 n n2 k l g F F2 := hp _ (List.mem_cons_self ..)
  clear hp
  obtain ⟨e, hn⟩ := hpp.n1 (by decide)
  have hm := hpp.nm
  have hkm := hpp.km
  have hbb := hpp.bb
  have hw := rt_wrap hn (by omega)
  have hw2 : IntKind.i64.wrap (Int.ofNat n - 1) = Int.ofNat (n2 - 1) := by rw [e]; exact hw
  have hu := rt_upd hpp (by decide)
  have hO := rt_own hpp (by decide)
  have hd : dWord (dOf k g) 8 (IntKind.i64.wrap (Int.ofNat n - 1)) 5 = dWord (dOf k g) 8 (Int.ofNat (n2 - 1)) 5 := by rw [hw2]
  have hz : (avInt (upd F (0 + (IntKind.i64.wrap (Int.ofNat n - 1)).toNat) 5 [AV.sym .u64 (dWord (dOf k g) 8 (IntKind.i64.wrap (Int.ofNat n - 1)) 5)] (0 + (IntKind.i64.wrap (Int.ofNat n - 1)).toNat) 0) == 0) = false := by
    have hu2 : upd F (0 + (IntKind.i64.wrap (Int.ofNat n - 1)).toNat) 5 [AV.sym .u64 (dWord (dOf k g) 8 (IntKind.i64.wrap (Int.ofNat n - 1)) 5)] = F2 := hu.symm
    rw [hu2, hw, Nat.zero_add]
    exact beq_eq_false_iff_ne.2 hO
  have hb1 : ((IntKind.i64.wrap (Int.ofNat n - 1)).toNat.blt n && decide (0 ≤ IntKind.i64.wrap (Int.ofNat n - 1))) = true := by
    rw [hw, Bool.and_eq_true]; exact ⟨Nat.ble_eq_true_of_le (show (Int.ofNat (n - 1)).toNat + 1 ≤ n by show n - 1 + 1 ≤ n; omega), decide_eq_true (by simp)⟩
  have hb2 : (0 + (IntKind.i64.wrap (Int.ofNat n - 1)).toNat).blt n = true := by
    rw [hw, Nat.zero_add]; exact Nat.ble_eq_true_of_le (show (Int.ofNat (n - 1)).toNat + 1 ≤ n by show n - 1 + 1 ≤ n; omega)
  have hb3 : n ≤ n2 := by omega
  have hfl2 : 6 = fl2 := by rw [hpp.fl2, e, if_neg (fun q => q.elim hO (by decide))] <;> rfl

  refine ⟨3000, _, _, _, rt5_1 .., (ob_cons rfl (ob_cons ?_ (ob_cons rfl (ob_cons rfl (ob_cons ?_ (ob_cons rfl (ob_cons ?_ (ob_cons ?_ (ob_cons rfl (ob_cons rfl (ob_cons rfl (ob_cons ?_ (ob_cons rfl (ob_cons rfl (ob_cons ?_ (ob_cons rfl (ob_cons ?_ (ob_cons ?_ (ob_cons ?_ (ob_cons rfl (ob_cons (Nat.le_refl _) (ob_cons (.inl ⟨rfl, rfl⟩) (ob_cons ?_ (ob_cons ?_ (ob_cons ?_ (ob_cons ?_ (ob_cons ?_ (ob_cons ?_ (ob_cons ?_ (ob_cons ?_ ob_nil))))))))))))))))))))))))))))))⟩
  · exact e.symm
  · exact hfl2
  · omega
  · exact .inl ⟨hu, rfl⟩
  · exact rfl
  · exact hw2
  · exact hd
  · exact hd
  · exact rfl
  · exact rfl
  · exact hz
  · exact hb2
  · exact hb2
  · exact hb1
  · exact hpp.kl
  · omega
  · exact rfl
theorem rt6_1 (b fl2 s2 : Int) (L2 : LS) (n n2 k l : Nat) (g F F2 : Nat → Nat → AV) : callB EP0 3000 40 [AV.ptr 1 0 0, AV.ptr 3 0 0] (rt6H b fl2 s2 L2 n n2 k l g F F2) (rt6R b fl2 s2 L2 n n2 k l g F F2) [(5, Src.nm 2)] [Hint.b false, Hint.k 7, Hint.b false, Hint.b false] =
 some ([(0 : Nat) = 0,
 n = n2,
 (none : Option Nat) = none,
 b = b,
 7 = fl2,
 false = false,
 n2 ≤ n,
 F2 = upd F (0 + (IntKind.i64.wrap (Int.ofNat n - 1)).toNat) 6 (AV.sym IntKind.u64 (dWord (dOf k g) 8 (IntKind.i64.wrap (Int.ofNat n - 1)) 6)).cells ∧ plainSh tSh = true ∨ ∀ (i : Nat), i < n2 → rowOb tSh 0 (upd F (0 + (IntKind.i64.wrap (Int.ofNat n - 1)).toNat) 6 (AV.sym IntKind.u64 (dWord (dOf k g) 8 (IntKind.i64.wrap (Int.ofNat n - 1)) 6)).cells i) (F2 i),
 (0 : Nat) = 0,
 k = k,
 (none : Option Nat) = none,
 IntKind.i64.wrap (s2 + 1) = (rLoad (mkR k g s2 L2) 8 (Int.ofNat (n2 - 1)) 6).st,
 (1 : Int) = 1,
 (8 : Int) = 8,
 IntKind.i64.wrap (Int.ofNat n - 1) = (rLoad (mkR k g s2 L2) 8 (Int.ofNat (n2 - 1)) 6).L.a,
 (6 : Int) = 6,
 dWord (dOf k g) 8 (IntKind.i64.wrap (Int.ofNat n - 1)) 6 = (rLoad (mkR k g s2 L2) 8 (Int.ofNat (n2 - 1)) 6).L.w,
 dWord (dOf k g) 8 (IntKind.i64.wrap (Int.ofNat n - 1)) 6 = (rLoad (mkR k g s2 L2) 8 (Int.ofNat (n2 - 1)) 6).L.i,
 false = (rLoad (mkR k g s2 L2) 8 (Int.ofNat (n2 - 1)) 6).L.d,
 false = false,
 l ≤ l,
 g = g ∧ plainSh wSh = true ∨ ∀ (i : Nat), i < l → rowOb wSh 0 (g i) (g i),
 ((7 : Int) == (0 : Int)) = false,
 (avInt (upd F (0 + (IntKind.i64.wrap (Int.ofNat n - 1)).toNat) 6 (AV.sym IntKind.u64 (dWord (dOf k g) 8 (IntKind.i64.wrap (Int.ofNat n - 1)) 6)).cells (0 + (IntKind.i64.wrap (Int.ofNat n - 1)).toNat) 0) == 0) = false,
 (0 + (IntKind.i64.wrap (Int.ofNat n - 1)).toNat).blt n = true,
 (0 + (IntKind.i64.wrap (Int.ofNat n - 1)).toNat).blt n = true,
 ((IntKind.i64.wrap (Int.ofNat n - 1)).toNat.blt n && decide (0 ≤ IntKind.i64.wrap (Int.ofNat n - 1))) = true,
 k ≤ l,
 k ≤ 1000000,
 ((6 : Int) == (0 : Int)) = false]) := by kernel_rfl
theorem rt6_loc (b fl2 s2 : Int) (L2 : LS) (n n2 k l : Nat) (g F F2 : Nat → Nat → AV) : LocOk Try.prog 40 [.ptr 1 0 0, .ptr 3 0 0] (rt6H b fl2 s2 L2 n n2 k l g F F2) (rt6R b fl2 s2 L2 n n2 k l g F F2) := by
  refine loc_of_call EP0_ok (fun hp => ?_)
  have hpp : RtPre b 6 fl2 n n2 k l g F F2 := hp _ (List.mem_cons_self ..)
  clear hp
  obtain ⟨e, hn⟩ := hpp.n1 (by decide)
  have hm := hpp.nm
  have hkm := hpp.km
  have hbb := hpp.bb
  have hw := rt_wrap hn (by omega)
  have hw2 : IntKind.i64.wrap (Int.ofNat n - 1) = Int.ofNat (n2 - 1) := by rw [e]; exact hw
  have hu := rt_upd hpp (by decide)
  have hO := rt_own hpp (by decide)
  have hd : dWord (dOf k g) 8 (IntKind.i64.wrap (Int.ofNat n - 1)) 6 = dWord (dOf k g) 8 (Int.ofNat (n2 - 1)) 6 := by rw [hw2]
  have hz : (avInt (upd F (0 + (IntKind.i64.wrap (Int.ofNat n - 1)).toNat) 6 [AV.sym .u64 (dWord (dOf k g) 8 (IntKind.i64.wrap (Int.ofNat n - 1)) 6)] (0 + (IntKind.i64.wrap (Int.ofNat n - 1)).toNat) 0) == 0) = false := by
    have hu2 : upd F (0 + (IntKind.i64.wrap (Int.ofNat n - 1)).toNat) 6 [AV.sym .u64 (dWord (dOf k g) 8 (IntKind.i64.wrap (Int.ofNat n - 1)) 6)] = F2 := hu.symm
    rw [hu2, hw, Nat.zero_add]
    exact beq_eq_false_iff_ne.2 hO
  have hb1 : ((IntKind.i64.wrap (Int.ofNat n - 1)).toNat.blt n && decide (0 ≤ IntKind.i64.wrap (Int.ofNat n - 1))) = true := by
    rw [hw, Bool.and_eq_true]; exact ⟨Nat.ble_eq_true_of_le (show (Int.ofNat (n - 1)).toNat + 1 ≤ n by show n - 1 + 1 ≤ n; omega), decide_eq_true (by simp)⟩
  have hb2 : (0 + (IntKind.i64.wrap (Int.ofNat n - 1)).toNat).blt n = true := by
    rw [hw, Nat.zero_add]; exact Nat.ble_eq_true_of_le (show (Int.ofNat (n - 1)).toNat + 1 ≤ n by show n - 1 + 1 ≤ n; omega)
  have hb3 : n ≤ n2 := by omega
  have hfl2 : 7 = fl2 := by rw [hpp.fl2, e, if_neg (fun q => q.elim hO (by decide))] <;> rfl

  refine ⟨3000, _, _, _, rt6_1 .., (ob_cons rfl (ob_cons ?_ (ob_cons rfl (ob_cons rfl (ob_cons ?_ (ob_cons rfl (ob_cons ?_ (ob_cons ?_ (ob_cons rfl (ob_cons rfl (ob_cons rfl (ob_cons ?_ (ob_cons rfl (ob_cons rfl (ob_cons ?_ (ob_cons rfl (ob_cons ?_ (ob_cons ?_ (ob_cons ?_ (ob_cons rfl (ob_cons (Nat.le_refl _) (ob_cons (.inl ⟨rfl, rfl⟩) (ob_cons ?_ (ob_cons ?_ (ob_cons ?_ (ob_cons ?_ (ob_cons ?_ (ob_cons ?_ (ob_cons ?_ (ob_cons ?_ ob_nil))))))))))))))))))))))))))))))⟩
  · exact e.symm
  · exact hfl2
  · omega
  · exact .inl ⟨hu, rfl⟩
  · exact rfl
  · exact hw2
  · exact hd
  · exact hd
  · exact rfl
  · exact rfl
  · exact hz
  · exact hb2
  · exact hb2
  · exact hb1
  · exact hpp.kl
  · omega
  · exact rfl
theorem rt7_1 (b fl2 s2 : Int) (L2 : LS) (n n2 k l : Nat) (g F F2 : Nat → Nat → AV) : callB EP0 3000 40 [AV.ptr 1 0 0, AV.ptr 3 0 0] (rt7H b fl2 s2 L2 n n2 k l g F F2) (rt7R b fl2 s2 L2 n n2 k l g F F2) [(5, Src.nm 2)] [Hint.b false, Hint.k 8, Hint.b false, Hint.b false] =
 some ([(0 : Nat) = 0,
 n = n2,
 (none : Option Nat) = none,
 b = b,
 8 = fl2,
 false = false,
 n2 ≤ n,
 F2 = upd F (0 + (IntKind.i64.wrap (Int.ofNat n - 1)).toNat) 7 (AV.sym IntKind.u64 (dWord (dOf k g) 8 (IntKind.i64.wrap (Int.ofNat n - 1)) 7)).cells ∧ plainSh tSh = true ∨ ∀ (i : Nat), i < n2 → rowOb tSh 0 (upd F (0 + (IntKind.i64.wrap (Int.ofNat n - 1)).toNat) 7 (AV.sym IntKind.u64 (dWord (dOf k g) 8 (IntKind.i64.wrap (Int.ofNat n - 1)) 7)).cells i) (F2 i),
 (0 : Nat) = 0,
 k = k,
 (none : Option Nat) = none,
 IntKind.i64.wrap (s2 + 1) = (rLoad (mkR k g s2 L2) 8 (Int.ofNat (n2 - 1)) 7).st,
 (1 : Int) = 1,
 (8 : Int) = 8,
 IntKind.i64.wrap (Int.ofNat n - 1) = (rLoad (mkR k g s2 L2) 8 (Int.ofNat (n2 - 1)) 7).L.a,
 (7 : Int) = 7,
 dWord (dOf k g) 8 (IntKind.i64.wrap (Int.ofNat n - 1)) 7 = (rLoad (mkR k g s2 L2) 8 (Int.ofNat (n2 - 1)) 7).L.w,
 dWord (dOf k g) 8 (IntKind.i64.wrap (Int.ofNat n - 1)) 7 = (rLoad (mkR k g s2 L2) 8 (Int.ofNat (n2 - 1)) 7).L.i,
 false = (rLoad (mkR k g s2 L2) 8 (Int.ofNat (n2 - 1)) 7).L.d,
 false = false,
 l ≤ l,
 g = g ∧ plainSh wSh = true ∨ ∀ (i : Nat), i < l → rowOb wSh 0 (g i) (g i),
 ((8 : Int) == (0 : Int)) = false,
 (avInt (upd F (0 + (IntKind.i64.wrap (Int.ofNat n - 1)).toNat) 7 (AV.sym IntKind.u64 (dWord (dOf k g) 8 (IntKind.i64.wrap (Int.ofNat n - 1)) 7)).cells (0 + (IntKind.i64.wrap (Int.ofNat n - 1)).toNat) 0) == 0) = false,
 (0 + (IntKind.i64.wrap (Int.ofNat n - 1)).toNat).blt n = true,
 (0 + (IntKind.i64.wrap (Int.ofNat n - 1)).toNat).blt n = true,
 ((IntKind.i64.wrap (Int.ofNat n - 1)).toNat.blt n && decide (0 ≤ IntKind.i64.wrap (Int.ofNat n - 1))) = true,
 k ≤ l,
 k ≤ 1000000,
 ((7 : Int) == (0 : Int)) = false]) := by kernel_rfl
theorem rt7_loc (b fl2 s2 : Int) (L2 : LS) (n n2 k l : Nat) (g F F2 : Nat → Nat → AV) : LocOk Try.prog 40 [.ptr 1 0 0, .ptr 3 0 0] (rt7H b fl2 s2 L2 n n2 k l g F F2) (rt7R b fl2 s2 L2 n n2 k l g F F2) := by
  refine loc_of_call EP0_ok (fun hp => ?_)
  have hpp : RtPre b 7 fl2 n n2 k l g F F2 := hp _ (List.mem_cons_self ..)
  clear hp
  obtain ⟨e, hn⟩ := hpp.n1 (by decide)
  have hm := hpp.nm
  have hkm := hpp.km
  have hbb := hpp.bb
  have hw := rt_wrap hn (by omega)
  have hw2 : IntKind.i64.wrap (Int.ofNat n - 1) = Int.ofNat (n2 - 1) := by rw [e]; exact hw
  have hu := rt_upd hpp (by decide)
  have hO := rt_own hpp (by decide)
  have hd : dWord (dOf k g) 8 (IntKind.i64.wrap (Int.ofNat n - 1)) 7 = dWord (dOf k g) 8 (Int.ofNat (n2 - 1)) 7 := by rw [hw2]
  have hz : (avInt (upd F (0 + (IntKind.i64.wrap (Int.ofNat n - 1)).toNat) 7 [AV.sym .u64 (dWord (dOf k g) 8 (IntKind.i64.wrap (Int.ofNat n - 1)) 7)] (0 + (IntKind.i64.wrap (Int.ofNat n - 1)).toNat) 0) == 0) = false := by
    have hu2 : upd F (0 + (IntKind.i64.wrap (Int.ofNat n - 1)).toNat) 7 [AV.sym .u64 (dWord (dOf k g) 8 (IntKind.i64.wrap (Int.ofNat n - 1)) 7)] = F2 := hu.symm
    rw [hu2, hw, Nat.zero_add]
    exact beq_eq_false_iff_ne.2 hO
  have hb1 : ((IntKind.i64.wrap (Int.ofNat n - 1)).toNat.blt n && decide (0 ≤ IntKind.i64.wrap (Int.ofNat n - 1))) = true := by
    rw [hw, Bool.and_eq_true]; exact ⟨Nat.ble_eq_true_of_le (show (Int.ofNat (n - 1)).toNat + 1 ≤ n by show n - 1 + 1 ≤ n; omega), decide_eq_true (by simp)⟩
  have hb2 : (0 + (IntKind.i64.wrap (Int.ofNat n - 1)).toNat).blt n = true := by
    rw [hw, Nat.zero_add]; exact Nat.ble_eq_true_of_le (show (Int.ofNat (n - 1)).toNat + 1 ≤ n by show n - 1 + 1 ≤ n; omega)
  have hb3 : n ≤ n2 := by omega
  have hfl2 : 8 = fl2 := by rw [hpp.fl2, e, if_neg (fun q => q.elim hO (by decide))] <;> rfl

  refine ⟨3000, _, _, _, rt7_1 .., (ob_cons rfl (ob_cons ?_ (ob_cons rfl (ob_cons rfl (ob_cons ?_ (ob_cons rfl (ob_cons ?_ (ob_cons ?_ (ob_cons rfl (ob_cons rfl (ob_cons rfl (ob_cons ?_ (ob_cons rfl (ob_cons rfl (ob_cons ?_ (ob_cons rfl (ob_cons ?_ (ob_cons ?_ (ob_cons ?_ (ob_cons rfl (ob_cons (Nat.le_refl _) (ob_cons (.inl ⟨rfl, rfl⟩) (ob_cons ?_ (ob_cons ?_ (ob_cons ?_ (ob_cons ?_ (ob_cons ?_ (ob_cons ?_ (ob_cons ?_ (ob_cons ?_ ob_nil))))))))))))))))))))))))))))))⟩
  · exact e.symm
  · exact hfl2
  · omega
  · exact .inl ⟨hu, rfl⟩
  · exact rfl
  · exact hw2
  · exact hd
  · exact hd
  · exact rfl
  · exact rfl
  · exact hz
  · exact hb2
  · exact hb2
  · exact hb1
  · exact hpp.kl
  · omega
  · exact rfl
theorem rt8_1 (b fl2 s2 : Int) (L2 : LS) (n n2 k l : Nat) (g F F2 : Nat → Nat → AV) : callB EP0 3000 40 [AV.ptr 1 0 0, AV.ptr 3 0 0] (rt8H b fl2 s2 L2 n n2 k l g F F2) (rt8R b fl2 s2 L2 n n2 k l g F F2) [(5, Src.nm 2)] [Hint.b false, Hint.k 9, Hint.b false, Hint.b false] =
 some ([(0 : Nat) = 0,
 n = n2,
 (none : Option Nat) = none,
 b = b,
 9 = fl2,
 false = false,
 n2 ≤ n,
 F2 = upd F (0 + (IntKind.i64.wrap (Int.ofNat n - 1)).toNat) 8 (AV.sym IntKind.u64 (dWord (dOf k g) 8 (IntKind.i64.wrap (Int.ofNat n - 1)) 8)).cells ∧ plainSh tSh = true ∨ ∀ (i : Nat), i < n2 → rowOb tSh 0 (upd F (0 + (IntKind.i64.wrap (Int.ofNat n - 1)).toNat) 8 (AV.sym IntKind.u64 (dWord (dOf k g) 8 (IntKind.i64.wrap (Int.ofNat n - 1)) 8)).cells i) (F2 i),
 (0 : Nat) = 0,
 k = k,
 (none : Option Nat) = none,
 IntKind.i64.wrap (s2 + 1) = (rLoad (mkR k g s2 L2) 8 (Int.ofNat (n2 - 1)) 8).st,
 (1 : Int) = 1,
 (8 : Int) = 8,
 IntKind.i64.wrap (Int.ofNat n - 1) = (rLoad (mkR k g s2 L2) 8 (Int.ofNat (n2 - 1)) 8).L.a,
 (8 : Int) = 8,
 dWord (dOf k g) 8 (IntKind.i64.wrap (Int.ofNat n - 1)) 8 = (rLoad (mkR k g s2 L2) 8 (Int.ofNat (n2 - 1)) 8).L.w,
 dWord (dOf k g) 8 (IntKind.i64.wrap (Int.ofNat n - 1)) 8 = (rLoad (mkR k g s2 L2) 8 (Int.ofNat (n2 - 1)) 8).L.i,
 false = (rLoad (mkR k g s2 L2) 8 (Int.ofNat (n2 - 1)) 8).L.d,
 false = false,
 l ≤ l,
 g = g ∧ plainSh wSh = true ∨ ∀ (i : Nat), i < l → rowOb wSh 0 (g i) (g i),
 ((9 : Int) == (0 : Int)) = false,
 (avInt (upd F (0 + (IntKind.i64.wrap (Int.ofNat n - 1)).toNat) 8 (AV.sym IntKind.u64 (dWord (dOf k g) 8 (IntKind.i64.wrap (Int.ofNat n - 1)) 8)).cells (0 + (IntKind.i64.wrap (Int.ofNat n - 1)).toNat) 0) == 0) = false,
 (0 + (IntKind.i64.wrap (Int.ofNat n - 1)).toNat).blt n = true,
 (0 + (IntKind.i64.wrap (Int.ofNat n - 1)).toNat).blt n = true,
 ((IntKind.i64.wrap (Int.ofNat n - 1)).toNat.blt n && decide (0 ≤ IntKind.i64.wrap (Int.ofNat n - 1))) = true,
 k ≤ l,
 k ≤ 1000000,
 ((8 : Int) == (0 : Int)) = false]) := by kernel_rfl
theorem rt8_loc (b fl2 s2 : Int) (L2 : LS) (n n2 k l : Nat) (g F F2 : Nat → Nat → AV) : LocOk Try.prog 40 [.ptr 1 0 0, .ptr 3 0 0] (rt8H b fl2 s2 L2 n n2 k l g F F2) (rt8R b fl2 s2 L2 n n2 k l g F F2) := by
  refine loc_of_call EP0_ok (fun hp => ?_)
  have hpp : RtPre b 8 fl2 n n2 k l g F F2 := hp _ (List.mem_cons_self ..)
  clear hp
  obtain ⟨e, hn⟩ := hpp.n1 (by decide)
  have hm := hpp.nm
  have hkm := hpp.km
  have hbb := hpp.bb
  have hw := rt_wrap hn (by omega)
  have hw2 : IntKind.i64.wrap (Int.ofNat n - 1) = Int.ofNat (n2 - 1) := by rw [e]; exact hw
  have hu := rt_upd hpp (by decide)
  have hO := rt_own hpp (by decide)
  have hd : dWord (dOf k g) 8 (IntKind.i64.wrap (Int.ofNat n - 1)) 8 = dWord (dOf k g) 8 (Int.ofNat (n2 - 1)) 8 := by rw [hw2]
  have hz : (avInt (upd F (0 + (IntKind.i64.wrap (Int.ofNat n - 1)).toNat) 8 [AV.sym .u64 (dWord (dOf k g) 8 (IntKind.i64.wrap (Int.ofNat n - 1)) 8)] (0 + (IntKind.i64.wrap (Int.ofNat n - 1)).toNat) 0) == 0) = false := by
    have hu2 : upd F (0 + (IntKind.i64.wrap (Int.ofNat n - 1)).toNat) 8 [AV.sym .u64 (dWord (dOf k g) 8 (IntKind.i64.wrap (Int.ofNat n - 1)) 8)] = F2 := hu.symm
    rw [hu2, hw, Nat.zero_add]
    exact beq_eq_false_iff_ne.2 hO
  have hb1 : ((IntKind.i64.wrap (Int.ofNat n - 1)).toNat.blt n && decide (0 ≤ IntKind.i64.wrap (Int.ofNat n - 1))) = true := by
    rw [hw, Bool.and_eq_true]; exact ⟨Nat.ble_eq_true_of_le (show (Int.ofNat (n - 1)).toNat + 1 ≤ n by show n - 1 + 1 ≤ n; omega), decide_eq_true (by simp)⟩
  have hb2 : (0 + (IntKind.i64.wrap (Int.ofNat n - 1)).toNat).blt n = true := by
    rw [hw, Nat.zero_add]; exact Nat.ble_eq_true_of_le (show (Int.ofNat (n - 1)).toNat + 1 ≤ n by show n - 1 + 1 ≤ n; omega)
  have hb3 : n ≤ n2 := by omega
  have hfl2 : 9 = fl2 := by rw [hpp.fl2, e, if_neg (fun q => q.elim hO (by decide))] <;> rfl

  refine ⟨3000, _, _, _, rt8_1 .., (ob_cons rfl (ob_cons ?_ (ob_cons rfl (ob_cons rfl (ob_cons ?_ (ob_cons rfl (ob_cons ?_ (ob_cons ?_ (ob_cons rfl (ob_cons rfl (ob_cons rfl (ob_cons ?_ (ob_cons rfl (ob_cons rfl (ob_cons ?_ (ob_cons rfl (ob_cons ?_ (ob_cons ?_ (ob_cons ?_ (ob_cons rfl (ob_cons (Nat.le_refl _) (ob_cons (.inl ⟨rfl, rfl⟩) (ob_cons ?_ (ob_cons ?_ (ob_cons ?_ (ob_cons ?_ (ob_cons ?_ (ob_cons ?_ (ob_cons ?_ (ob_cons ?_ ob_nil))))))))))))))))))))))))))))))⟩
  · exact e.symm
  · exact hfl2
  · omega
  · exact .inl ⟨hu, rfl⟩
  · exact rfl
  · exact hw2
  · exact hd
  · exact hd
  · exact rfl
  · exact rfl
  · exact hz
  · exact hb2
  · exact hb2
  · exact hb1
  · exact hpp.kl
  · omega
  · exact rfl
theorem rt9c_1 (b fl2 s2 : Int) (L2 : LS) (n n2 k l : Nat) (g F F2 : Nat → Nat → AV) : callB EP0 3000 40 [AV.ptr 1 0 0, AV.ptr 3 0 0] (rt9cH b fl2 s2 L2 n n2 k l g F F2) (rt9cR b fl2 s2 L2 n n2 k l g F F2) [(5, Src.nm 2)] [Hint.b false, Hint.k 10, Hint.b false, Hint.b true, Hint.b false] =
 some ([(0 : Nat) = 0,
 n = n2,
 (none : Option Nat) = none,
 b = b,
 0 = fl2,
 false = false,
 n2 ≤ n,
 F2 = upd F (0 + (IntKind.i64.wrap (Int.ofNat n - 1)).toNat) 9 (AV.sym IntKind.u64 (dWord (dOf k g) 8 (IntKind.i64.wrap (Int.ofNat n - 1)) 9)).cells ∧ plainSh tSh = true ∨ ∀ (i : Nat), i < n2 → rowOb tSh 0 (upd F (0 + (IntKind.i64.wrap (Int.ofNat n - 1)).toNat) 9 (AV.sym IntKind.u64 (dWord (dOf k g) 8 (IntKind.i64.wrap (Int.ofNat n - 1)) 9)).cells i) (F2 i),
 (0 : Nat) = 0,
 k = k,
 (none : Option Nat) = none,
 IntKind.i64.wrap (s2 + 1) = (rLoad (mkR k g s2 L2) 8 (Int.ofNat (n2 - 1)) 9).st,
 (1 : Int) = 1,
 (8 : Int) = 8,
 IntKind.i64.wrap (Int.ofNat n - 1) = (rLoad (mkR k g s2 L2) 8 (Int.ofNat (n2 - 1)) 9).L.a,
 (9 : Int) = 9,
 dWord (dOf k g) 8 (IntKind.i64.wrap (Int.ofNat n - 1)) 9 = (rLoad (mkR k g s2 L2) 8 (Int.ofNat (n2 - 1)) 9).L.w,
 dWord (dOf k g) 8 (IntKind.i64.wrap (Int.ofNat n - 1)) 9 = (rLoad (mkR k g s2 L2) 8 (Int.ofNat (n2 - 1)) 9).L.i,
 false = (rLoad (mkR k g s2 L2) 8 (Int.ofNat (n2 - 1)) 9).L.d,
 false = false,
 l ≤ l,
 g = g ∧ plainSh wSh = true ∨ ∀ (i : Nat), i < l → rowOb wSh 0 (g i) (g i),
 (IntKind.i64.wrap (IntKind.i64.wrap (Int.ofNat n - 1) + 1) == IntKind.i64.wrap (4 * b)) = false,
 ((0 : Int) == (0 : Int)) = true,
 (avInt (upd F (0 + (IntKind.i64.wrap (Int.ofNat n - 1)).toNat) 9 (AV.sym IntKind.u64 (dWord (dOf k g) 8 (IntKind.i64.wrap (Int.ofNat n - 1)) 9)).cells (0 + (IntKind.i64.wrap (Int.ofNat n - 1)).toNat) 0) == 0) = false,
 (0 + (IntKind.i64.wrap (Int.ofNat n - 1)).toNat).blt n = true,
 (0 + (IntKind.i64.wrap (Int.ofNat n - 1)).toNat).blt n = true,
 ((IntKind.i64.wrap (Int.ofNat n - 1)).toNat.blt n && decide (0 ≤ IntKind.i64.wrap (Int.ofNat n - 1))) = true,
 k ≤ l,
 k ≤ 1000000,
 ((9 : Int) == (0 : Int)) = false]) := by kernel_rfl
theorem rt9c_loc (b fl2 s2 : Int) (L2 : LS) (n n2 k l : Nat) (g F F2 : Nat → Nat → AV) : LocOk Try.prog 40 [.ptr 1 0 0, .ptr 3 0 0] (rt9cH b fl2 s2 L2 n n2 k l g F F2) (rt9cR b fl2 s2 L2 n n2 k l g F F2) := by
  refine loc_of_call EP0_ok (fun hp => ?_)
  have hpp : RtPre b 9 fl2 n n2 k l g F F2 := hp _ (List.mem_cons_self ..)
  have hov : Int.ofNat n2 ≠ 4 * b := hp _ (List.mem_cons_of_mem _ (List.mem_cons_self ..))
  clear hp
  obtain ⟨e, hn⟩ := hpp.n1 (by decide)
  have hm := hpp.nm
  have hkm := hpp.km
  have hbb := hpp.bb
  have hw := rt_wrap hn (by omega)
  have hw2 : IntKind.i64.wrap (Int.ofNat n - 1) = Int.ofNat (n2 - 1) := by rw [e]; exact hw
  have hu := rt_upd hpp (by decide)
  have hO := rt_own hpp (by decide)
  have hd : dWord (dOf k g) 8 (IntKind.i64.wrap (Int.ofNat n - 1)) 9 = dWord (dOf k g) 8 (Int.ofNat (n2 - 1)) 9 := by rw [hw2]
  have hz : (avInt (upd F (0 + (IntKind.i64.wrap (Int.ofNat n - 1)).toNat) 9 [AV.sym .u64 (dWord (dOf k g) 8 (IntKind.i64.wrap (Int.ofNat n - 1)) 9)] (0 + (IntKind.i64.wrap (Int.ofNat n - 1)).toNat) 0) == 0) = false := by
    have hu2 : upd F (0 + (IntKind.i64.wrap (Int.ofNat n - 1)).toNat) 9 [AV.sym .u64 (dWord (dOf k g) 8 (IntKind.i64.wrap (Int.ofNat n - 1)) 9)] = F2 := hu.symm
    rw [hu2, hw, Nat.zero_add]
    exact beq_eq_false_iff_ne.2 hO
  have hb1 : ((IntKind.i64.wrap (Int.ofNat n - 1)).toNat.blt n && decide (0 ≤ IntKind.i64.wrap (Int.ofNat n - 1))) = true := by
    rw [hw, Bool.and_eq_true]; exact ⟨Nat.ble_eq_true_of_le (show (Int.ofNat (n - 1)).toNat + 1 ≤ n by show n - 1 + 1 ≤ n; omega), decide_eq_true (by simp)⟩
  have hb2 : (0 + (IntKind.i64.wrap (Int.ofNat n - 1)).toNat).blt n = true := by
    rw [hw, Nat.zero_add]; exact Nat.ble_eq_true_of_le (show (Int.ofNat (n - 1)).toNat + 1 ≤ n by show n - 1 + 1 ≤ n; omega)
  have hb3 : n ≤ n2 := by omega
  have hfl2 : 0 = fl2 := by rw [hpp.fl2, e, if_pos (.inr rfl)] <;> rfl
  have hb4 : IntKind.i64.wrap (4 * b) = 4 * b := i64w (by omega) (by omega)
  have hb5 : IntKind.i64.wrap (IntKind.i64.wrap (Int.ofNat n - 1) + 1) = Int.ofNat n := by rw [hw, i64w (by simp; omega) (by simp; omega)]; first | (simp; done) | (simp; omega)
  have hov2 : (IntKind.i64.wrap (IntKind.i64.wrap (Int.ofNat n - 1) + 1) == IntKind.i64.wrap (4 * b)) = false := by
    rw [hb5, hb4]
    rw [e] at hov
    exact beq_eq_false_iff_ne.2 hov

  refine ⟨3000, _, _, _, rt9c_1 .., (ob_cons rfl (ob_cons ?_ (ob_cons rfl (ob_cons rfl (ob_cons ?_ (ob_cons rfl (ob_cons ?_ (ob_cons ?_ (ob_cons rfl (ob_cons rfl (ob_cons rfl (ob_cons ?_ (ob_cons rfl (ob_cons rfl (ob_cons ?_ (ob_cons rfl (ob_cons ?_ (ob_cons ?_ (ob_cons ?_ (ob_cons rfl (ob_cons (Nat.le_refl _) (ob_cons (.inl ⟨rfl, rfl⟩) (ob_cons ?_ (ob_cons ?_ (ob_cons ?_ (ob_cons ?_ (ob_cons ?_ (ob_cons ?_ (ob_cons ?_ (ob_cons ?_ (ob_cons ?_ ob_nil)))))))))))))))))))))))))))))))⟩
  · exact e.symm
  · exact hfl2
  · omega
  · exact .inl ⟨hu, rfl⟩
  · exact rfl
  · exact hw2
  · exact hd
  · exact hd
  · exact rfl
  · exact hov2
  · exact rfl
  · exact hz
  · exact hb2
  · exact hb2
  · exact hb1
  · exact hpp.kl
  · omega
  · exact rfl
theorem rt9o_1 (b fl2 s2 : Int) (L2 : LS) (n n2 k l : Nat) (g F F2 : Nat → Nat → AV) : callB EP0 3000 40 [AV.ptr 1 0 0, AV.ptr 3 0 0] (rt9oH b fl2 s2 L2 n n2 k l g F F2) (rt9oR b fl2 s2 L2 n n2 k l g F F2) [(5, Src.nm 2)] [Hint.b false, Hint.k 10, Hint.b false, Hint.b true, Hint.b true] =
 some ([(0 : Nat) = 0,
 n = n2,
 (none : Option Nat) = none,
 b = b,
 0 = fl2,
 false = false,
 n2 ≤ n,
 F2 = upd F (0 + (IntKind.i64.wrap (Int.ofNat n - 1)).toNat) 9 (AV.sym IntKind.u64 (dWord (dOf k g) 8 (IntKind.i64.wrap (Int.ofNat n - 1)) 9)).cells ∧ plainSh tSh = true ∨ ∀ (i : Nat), i < n2 → rowOb tSh 0 (upd F (0 + (IntKind.i64.wrap (Int.ofNat n - 1)).toNat) 9 (AV.sym IntKind.u64 (dWord (dOf k g) 8 (IntKind.i64.wrap (Int.ofNat n - 1)) 9)).cells i) (F2 i),
 (0 : Nat) = 0,
 k = k,
 (none : Option Nat) = none,
 IntKind.i64.wrap (s2 + 1) = (rLoad (mkR k g s2 L2) 8 (Int.ofNat (n2 - 1)) 9).st,
 (1 : Int) = 1,
 (8 : Int) = 8,
 IntKind.i64.wrap (Int.ofNat n - 1) = (rLoad (mkR k g s2 L2) 8 (Int.ofNat (n2 - 1)) 9).L.a,
 (9 : Int) = 9,
 dWord (dOf k g) 8 (IntKind.i64.wrap (Int.ofNat n - 1)) 9 = (rLoad (mkR k g s2 L2) 8 (Int.ofNat (n2 - 1)) 9).L.w,
 dWord (dOf k g) 8 (IntKind.i64.wrap (Int.ofNat n - 1)) 9 = (rLoad (mkR k g s2 L2) 8 (Int.ofNat (n2 - 1)) 9).L.i,
 false = (rLoad (mkR k g s2 L2) 8 (Int.ofNat (n2 - 1)) 9).L.d,
 false = false,
 l ≤ l,
 g = g ∧ plainSh wSh = true ∨ ∀ (i : Nat), i < l → rowOb wSh 0 (g i) (g i),
 (IntKind.i64.wrap (IntKind.i64.wrap (Int.ofNat n - 1) + 1) == IntKind.i64.wrap (4 * b)) = true,
 ((0 : Int) == (0 : Int)) = true,
 (avInt (upd F (0 + (IntKind.i64.wrap (Int.ofNat n - 1)).toNat) 9 (AV.sym IntKind.u64 (dWord (dOf k g) 8 (IntKind.i64.wrap (Int.ofNat n - 1)) 9)).cells (0 + (IntKind.i64.wrap (Int.ofNat n - 1)).toNat) 0) == 0) = false,
 (0 + (IntKind.i64.wrap (Int.ofNat n - 1)).toNat).blt n = true,
 (0 + (IntKind.i64.wrap (Int.ofNat n - 1)).toNat).blt n = true,
 ((IntKind.i64.wrap (Int.ofNat n - 1)).toNat.blt n && decide (0 ≤ IntKind.i64.wrap (Int.ofNat n - 1))) = true,
 k ≤ l,
 k ≤ 1000000,
 ((9 : Int) == (0 : Int)) = false]) := by kernel_rfl
theorem rt9o_loc (b fl2 s2 : Int) (L2 : LS) (n n2 k l : Nat) (g F F2 : Nat → Nat → AV) : LocOk Try.prog 40 [.ptr 1 0 0, .ptr 3 0 0] (rt9oH b fl2 s2 L2 n n2 k l g F F2) (rt9oR b fl2 s2 L2 n n2 k l g F F2) := by
  refine loc_of_call EP0_ok (fun hp => ?_)
  have hpp : RtPre b 9 fl2 n n2 k l g F F2 := hp _ (List.mem_cons_self ..)
  have hov : Int.ofNat n2 = 4 * b := hp _ (List.mem_cons_of_mem _ (List.mem_cons_self ..))
  clear hp
  obtain ⟨e, hn⟩ := hpp.n1 (by decide)
  have hm := hpp.nm
  have hkm := hpp.km
  have hbb := hpp.bb
  have hw := rt_wrap hn (by omega)
  have hw2 : IntKind.i64.wrap (Int.ofNat n - 1) = Int.ofNat (n2 - 1) := by rw [e]; exact hw
  have hu := rt_upd hpp (by decide)
  have hO := rt_own hpp (by decide)
  have hd : dWord (dOf k g) 8 (IntKind.i64.wrap (Int.ofNat n - 1)) 9 = dWord (dOf k g) 8 (Int.ofNat (n2 - 1)) 9 := by rw [hw2]
  have hz : (avInt (upd F (0 + (IntKind.i64.wrap (Int.ofNat n - 1)).toNat) 9 [AV.sym .u64 (dWord (dOf k g) 8 (IntKind.i64.wrap (Int.ofNat n - 1)) 9)] (0 + (IntKind.i64.wrap (Int.ofNat n - 1)).toNat) 0) == 0) = false := by
    have hu2 : upd F (0 + (IntKind.i64.wrap (Int.ofNat n - 1)).toNat) 9 [AV.sym .u64 (dWord (dOf k g) 8 (IntKind.i64.wrap (Int.ofNat n - 1)) 9)] = F2 := hu.symm
    rw [hu2, hw, Nat.zero_add]
    exact beq_eq_false_iff_ne.2 hO
  have hb1 : ((IntKind.i64.wrap (Int.ofNat n - 1)).toNat.blt n && decide (0 ≤ IntKind.i64.wrap (Int.ofNat n - 1))) = true := by
    rw [hw, Bool.and_eq_true]; exact ⟨Nat.ble_eq_true_of_le (show (Int.ofNat (n - 1)).toNat + 1 ≤ n by show n - 1 + 1 ≤ n; omega), decide_eq_true (by simp)⟩
  have hb2 : (0 + (IntKind.i64.wrap (Int.ofNat n - 1)).toNat).blt n = true := by
    rw [hw, Nat.zero_add]; exact Nat.ble_eq_true_of_le (show (Int.ofNat (n - 1)).toNat + 1 ≤ n by show n - 1 + 1 ≤ n; omega)
  have hb3 : n ≤ n2 := by omega
  have hfl2 : 0 = fl2 := by rw [hpp.fl2, e, if_pos (.inr rfl)] <;> rfl
  have hb4 : IntKind.i64.wrap (4 * b) = 4 * b := i64w (by omega) (by omega)
  have hb5 : IntKind.i64.wrap (IntKind.i64.wrap (Int.ofNat n - 1) + 1) = Int.ofNat n := by rw [hw, i64w (by simp; omega) (by simp; omega)]; first | (simp; done) | (simp; omega)
  have hov2 : (IntKind.i64.wrap (IntKind.i64.wrap (Int.ofNat n - 1) + 1) == IntKind.i64.wrap (4 * b)) = true := by
    rw [hb5, hb4]
    rw [e] at hov
    exact beq_iff_eq.2 hov

  refine ⟨3000, _, _, _, rt9o_1 .., (ob_cons rfl (ob_cons ?_ (ob_cons rfl (ob_cons rfl (ob_cons ?_ (ob_cons rfl (ob_cons ?_ (ob_cons ?_ (ob_cons rfl (ob_cons rfl (ob_cons rfl (ob_cons ?_ (ob_cons rfl (ob_cons rfl (ob_cons ?_ (ob_cons rfl (ob_cons ?_ (ob_cons ?_ (ob_cons ?_ (ob_cons rfl (ob_cons (Nat.le_refl _) (ob_cons (.inl ⟨rfl, rfl⟩) (ob_cons ?_ (ob_cons ?_ (ob_cons ?_ (ob_cons ?_ (ob_cons ?_ (ob_cons ?_ (ob_cons ?_ (ob_cons ?_ (ob_cons ?_ ob_nil)))))))))))))))))))))))))))))))⟩
  · exact e.symm
  · exact hfl2
  · omega
  · exact .inl ⟨hu, rfl⟩
  · exact rfl
  · exact hw2
  · exact hd
  · exact hd
  · exact rfl
  · exact hov2
  · exact rfl
  · exact hz
  · exact hb2
  · exact hb2
  · exact hb1
  · exact hpp.kl
  · omega
  · exact rfl
theorem rt0n_1 (b fl2 s2 : Int) (L2 : LS) (n n2 k l : Nat) (g F F2 : Nat → Nat → AV) : callB EP0 3000 40 [AV.ptr 1 0 0, AV.ptr 3 0 0] (rt0nH b fl2 s2 L2 n n2 k l g F F2) (rt0nR b fl2 s2 L2 n n2 k l g F F2) [(5, Src.nm 6)] [Hint.b true, Hint.k 1, Hint.b false, Hint.b false] =
 some ([(0 : Nat) = 0,
 n + 1 = n2,
 (none : Option Nat) = none,
 b = b,
 1 = fl2,
 false = false,
 n2 ≤ n + 1,
 F2 = upd (fun i j => if i < n then F (0 + i) j else rowsOf 10 [cellOf (Value.int IntKind.u64 0), cellOf (Value.int IntKind.u64 0), cellOf (Value.int IntKind.u64 0), cellOf (Value.int IntKind.u64 0), cellOf (Value.int IntKind.u64 0), cellOf (Value.int IntKind.u64 0), cellOf (Value.int IntKind.u64 0), cellOf (Value.int IntKind.u64 0), cellOf (Value.int IntKind.u64 0), cellOf (Value.int IntKind.u64 0)] (i - n) j) (0 + (IntKind.i64.wrap (Int.ofNat (n + 1) - 1)).toNat) 0 (AV.sym IntKind.u64 (dWord (dOf k g) 8 (IntKind.i64.wrap (Int.ofNat (n + 1) - 1)) 0)).cells ∧ plainSh tSh = true ∨ ∀ (i : Nat), i < n2 → rowOb tSh 0 (upd (fun i j => if i < n then F (0 + i) j else rowsOf 10 [cellOf (Value.int IntKind.u64 0), cellOf (Value.int IntKind.u64 0), cellOf (Value.int IntKind.u64 0), cellOf (Value.int IntKind.u64 0), cellOf (Value.int IntKind.u64 0), cellOf (Value.int IntKind.u64 0), cellOf (Value.int IntKind.u64 0), cellOf (Value.int IntKind.u64 0), cellOf (Value.int IntKind.u64 0), cellOf (Value.int IntKind.u64 0)] (i - n) j) (0 + (IntKind.i64.wrap (Int.ofNat (n + 1) - 1)).toNat) 0 (AV.sym IntKind.u64 (dWord (dOf k g) 8 (IntKind.i64.wrap (Int.ofNat (n + 1) - 1)) 0)).cells i) (F2 i),
 (0 : Nat) = 0,
 k = k,
 (none : Option Nat) = none,
 IntKind.i64.wrap (s2 + 1) = (rLoad (mkR k g s2 L2) 8 (Int.ofNat (n2 - 1)) 0).st,
 (1 : Int) = 1,
 (8 : Int) = 8,
 IntKind.i64.wrap (Int.ofNat (n + 1) - 1) = (rLoad (mkR k g s2 L2) 8 (Int.ofNat (n2 - 1)) 0).L.a,
 (0 : Int) = 0,
 dWord (dOf k g) 8 (IntKind.i64.wrap (Int.ofNat (n + 1) - 1)) 0 = (rLoad (mkR k g s2 L2) 8 (Int.ofNat (n2 - 1)) 0).L.w,
 dWord (dOf k g) 8 (IntKind.i64.wrap (Int.ofNat (n + 1) - 1)) 0 = (rLoad (mkR k g s2 L2) 8 (Int.ofNat (n2 - 1)) 0).L.i,
 false = (rLoad (mkR k g s2 L2) 8 (Int.ofNat (n2 - 1)) 0).L.d,
 false = false,
 l ≤ l,
 g = g ∧ plainSh wSh = true ∨ ∀ (i : Nat), i < l → rowOb wSh 0 (g i) (g i),
 ((1 : Int) == (0 : Int)) = false,
 (avInt (upd (fun i j => if i < n then F (0 + i) j else rowsOf 10 [cellOf (Value.int IntKind.u64 0), cellOf (Value.int IntKind.u64 0), cellOf (Value.int IntKind.u64 0), cellOf (Value.int IntKind.u64 0), cellOf (Value.int IntKind.u64 0), cellOf (Value.int IntKind.u64 0), cellOf (Value.int IntKind.u64 0), cellOf (Value.int IntKind.u64 0), cellOf (Value.int IntKind.u64 0), cellOf (Value.int IntKind.u64 0)] (i - n) j) (0 + (IntKind.i64.wrap (Int.ofNat (n + 1) - 1)).toNat) 0 (AV.sym IntKind.u64 (dWord (dOf k g) 8 (IntKind.i64.wrap (Int.ofNat (n + 1) - 1)) 0)).cells (0 + (IntKind.i64.wrap (Int.ofNat (n + 1) - 1)).toNat) 0) == 0) = false,
 (0 + (IntKind.i64.wrap (Int.ofNat (n + 1) - 1)).toNat).blt (n + 1) = true,
 (0 + (IntKind.i64.wrap (Int.ofNat (n + 1) - 1)).toNat).blt (n + 1) = true,
 ((IntKind.i64.wrap (Int.ofNat (n + 1) - 1)).toNat.blt (n + 1) && decide (0 ≤ IntKind.i64.wrap (Int.ofNat (n + 1) - 1))) = true,
 k ≤ l,
 k ≤ 1000000,
 ((n + 1) * 80).ble 70368744177664 = true,
 (0 + n).ble n = true,
 ((0 : Int) == (0 : Int)) = true]) := by kernel_rfl
theorem rt0n_loc (b fl2 s2 : Int) (L2 : LS) (n n2 k l : Nat) (g F F2 : Nat → Nat → AV) : LocOk Try.prog 40 [.ptr 1 0 0, .ptr 3 0 0] (rt0nH b fl2 s2 L2 n n2 k l g F F2) (rt0nR b fl2 s2 L2 n n2 k l g F F2) := by
  refine loc_of_call EP0_ok (fun hp => ?_)
  have hpp : RtPre b 0 fl2 n n2 k l g F F2 := hp _ (List.mem_cons_self ..)
  have hO : dWord (dOf k g) 8 (Int.ofNat n) 0 ≠ 0 := hp _ (List.mem_cons_of_mem _ (List.mem_cons_self ..))
  clear hp
  have e := hpp.n0 rfl
  have hm := hpp.nm
  have hkm := hpp.km
  have hbb := hpp.bb
  have hw : IntKind.i64.wrap (Int.ofNat (n + 1) - 1) = Int.ofNat n := rt_wrap (by omega) (by omega)
  have hw2 : IntKind.i64.wrap (Int.ofNat (n + 1) - 1) = Int.ofNat (n2 - 1) := by rw [e]; exact hw
  have hd : dWord (dOf k g) 8 (IntKind.i64.wrap (Int.ofNat (n + 1) - 1)) 0 = dWord (dOf k g) 8 (Int.ofNat (n2 - 1)) 0 := by rw [hw2]
  have hO2 : avInt (F2 (n2 - 1) 0) = dWord (dOf k g) 8 (Int.ofNat n) 0 := by
    rw [hpp.ff, e]; unfold tkF; rw [if_pos (show n + 1 - 1 = (Int.ofNat (n + 1 - 1)).toNat from rfl), if_pos (show 0 = (0 : Int).toNat from rfl)]; rfl
  have hb1 : ((IntKind.i64.wrap (Int.ofNat (n + 1) - 1)).toNat.blt (n + 1) && decide (0 ≤ IntKind.i64.wrap (Int.ofNat (n + 1) - 1))) = true := by
    rw [hw, Bool.and_eq_true]; exact ⟨Nat.ble_eq_true_of_le (show (Int.ofNat n).toNat + 1 ≤ n + 1 from Nat.le_refl _), decide_eq_true (by simp)⟩
  have hb2 : (0 + (IntKind.i64.wrap (Int.ofNat (n + 1) - 1)).toNat).blt (n + 1) = true := by
    rw [hw, Nat.zero_add]; exact Nat.ble_eq_true_of_le (show (Int.ofNat n).toNat + 1 ≤ n + 1 from Nat.le_refl _)
  have hb3 : n + 1 ≤ n2 := by omega
  have hz : ∀ f, (avInt (upd f (0 + (IntKind.i64.wrap (Int.ofNat (n + 1) - 1)).toNat) 0 [AV.sym .u64 (dWord (dOf k g) 8 (IntKind.i64.wrap (Int.ofNat (n + 1) - 1)) 0)] (0 + (IntKind.i64.wrap (Int.ofNat (n + 1) - 1)).toNat) 0) == 0) = false := fun f => by
    rw [upd_same, hw]; exact beq_eq_false_iff_ne.2 hO
  have hfl2 : 1 = fl2 := by rw [hpp.fl2, hO2, if_neg (fun q => q.elim hO (by decide))] <;> rfl

  refine ⟨3000, _, _, _, rt0n_1 .., (ob_cons rfl (ob_cons ?_ (ob_cons rfl (ob_cons rfl (ob_cons ?_ (ob_cons rfl (ob_cons ?_ (ob_cons ?_ (ob_cons rfl (ob_cons rfl (ob_cons rfl (ob_cons ?_ (ob_cons rfl (ob_cons rfl (ob_cons ?_ (ob_cons rfl (ob_cons ?_ (ob_cons ?_ (ob_cons ?_ (ob_cons rfl (ob_cons (Nat.le_refl _) (ob_cons (.inl ⟨rfl, rfl⟩) (ob_cons ?_ (ob_cons ?_ (ob_cons ?_ (ob_cons ?_ (ob_cons ?_ (ob_cons ?_ (ob_cons ?_ (ob_cons ?_ (ob_cons ?_ (ob_cons ?_ ob_nil))))))))))))))))))))))))))))))))⟩
  · exact e.symm
  · exact hfl2
  · omega
  · exact .inr (fun i hi => rt_rows hpp rfl rfl i (by omega))
  · exact rfl
  · exact hw2
  · exact hd
  · exact hd
  · exact rfl
  · exact rfl
  · exact hz _
  · exact hb2
  · exact hb2
  · exact hb1
  · exact hpp.kl
  · omega
  · (apply Nat.ble_eq_true_of_le; omega)
  · (simp; done)
  · exact rfl
theorem rt0c_1 (b fl2 s2 : Int) (L2 : LS) (n n2 k l : Nat) (g F F2 : Nat → Nat → AV) : callB EP0 3000 40 [AV.ptr 1 0 0, AV.ptr 3 0 0] (rt0cH b fl2 s2 L2 n n2 k l g F F2) (rt0cR b fl2 s2 L2 n n2 k l g F F2) [(5, Src.nm 6)] [Hint.b true, Hint.k 1, Hint.b true, Hint.b false] =
 some ([(0 : Nat) = 0,
 n + 1 = n2,
 (none : Option Nat) = none,
 b = b,
 0 = fl2,
 false = false,
 n2 ≤ n + 1,
 F2 = upd (fun i j => if i < n then F (0 + i) j else rowsOf 10 [cellOf (Value.int IntKind.u64 0), cellOf (Value.int IntKind.u64 0), cellOf (Value.int IntKind.u64 0), cellOf (Value.int IntKind.u64 0), cellOf (Value.int IntKind.u64 0), cellOf (Value.int IntKind.u64 0), cellOf (Value.int IntKind.u64 0), cellOf (Value.int IntKind.u64 0), cellOf (Value.int IntKind.u64 0), cellOf (Value.int IntKind.u64 0)] (i - n) j) (0 + (IntKind.i64.wrap (Int.ofNat (n + 1) - 1)).toNat) 0 (AV.sym IntKind.u64 (dWord (dOf k g) 8 (IntKind.i64.wrap (Int.ofNat (n + 1) - 1)) 0)).cells ∧ plainSh tSh = true ∨ ∀ (i : Nat), i < n2 → rowOb tSh 0 (upd (fun i j => if i < n then F (0 + i) j else rowsOf 10 [cellOf (Value.int IntKind.u64 0), cellOf (Value.int IntKind.u64 0), cellOf (Value.int IntKind.u64 0), cellOf (Value.int IntKind.u64 0), cellOf (Value.int IntKind.u64 0), cellOf (Value.int IntKind.u64 0), cellOf (Value.int IntKind.u64 0), cellOf (Value.int IntKind.u64 0), cellOf (Value.int IntKind.u64 0), cellOf (Value.int IntKind.u64 0)] (i - n) j) (0 + (IntKind.i64.wrap (Int.ofNat (n + 1) - 1)).toNat) 0 (AV.sym IntKind.u64 (dWord (dOf k g) 8 (IntKind.i64.wrap (Int.ofNat (n + 1) - 1)) 0)).cells i) (F2 i),
 (0 : Nat) = 0,
 k = k,
 (none : Option Nat) = none,
 IntKind.i64.wrap (s2 + 1) = (rLoad (mkR k g s2 L2) 8 (Int.ofNat (n2 - 1)) 0).st,
 (1 : Int) = 1,
 (8 : Int) = 8,
 IntKind.i64.wrap (Int.ofNat (n + 1) - 1) = (rLoad (mkR k g s2 L2) 8 (Int.ofNat (n2 - 1)) 0).L.a,
 (0 : Int) = 0,
 dWord (dOf k g) 8 (IntKind.i64.wrap (Int.ofNat (n + 1) - 1)) 0 = (rLoad (mkR k g s2 L2) 8 (Int.ofNat (n2 - 1)) 0).L.w,
 dWord (dOf k g) 8 (IntKind.i64.wrap (Int.ofNat (n + 1) - 1)) 0 = (rLoad (mkR k g s2 L2) 8 (Int.ofNat (n2 - 1)) 0).L.i,
 false = (rLoad (mkR k g s2 L2) 8 (Int.ofNat (n2 - 1)) 0).L.d,
 false = false,
 l ≤ l,
 g = g ∧ plainSh wSh = true ∨ ∀ (i : Nat), i < l → rowOb wSh 0 (g i) (g i),
 (IntKind.i64.wrap (IntKind.i64.wrap (Int.ofNat (n + 1) - 1) + 1) == IntKind.i64.wrap (4 * b)) = false,
 (avInt (upd (fun i j => if i < n then F (0 + i) j else rowsOf 10 [cellOf (Value.int IntKind.u64 0), cellOf (Value.int IntKind.u64 0), cellOf (Value.int IntKind.u64 0), cellOf (Value.int IntKind.u64 0), cellOf (Value.int IntKind.u64 0), cellOf (Value.int IntKind.u64 0), cellOf (Value.int IntKind.u64 0), cellOf (Value.int IntKind.u64 0), cellOf (Value.int IntKind.u64 0), cellOf (Value.int IntKind.u64 0)] (i - n) j) (0 + (IntKind.i64.wrap (Int.ofNat (n + 1) - 1)).toNat) 0 (AV.sym IntKind.u64 (dWord (dOf k g) 8 (IntKind.i64.wrap (Int.ofNat (n + 1) - 1)) 0)).cells (0 + (IntKind.i64.wrap (Int.ofNat (n + 1) - 1)).toNat) 0) == 0) = true,
 (0 + (IntKind.i64.wrap (Int.ofNat (n + 1) - 1)).toNat).blt (n + 1) = true,
 (0 + (IntKind.i64.wrap (Int.ofNat (n + 1) - 1)).toNat).blt (n + 1) = true,
 ((IntKind.i64.wrap (Int.ofNat (n + 1) - 1)).toNat.blt (n + 1) && decide (0 ≤ IntKind.i64.wrap (Int.ofNat (n + 1) - 1))) = true,
 k ≤ l,
 k ≤ 1000000,
 ((n + 1) * 80).ble 70368744177664 = true,
 (0 + n).ble n = true,
 ((0 : Int) == (0 : Int)) = true]) := by kernel_rfl
theorem rt0c_loc (b fl2 s2 : Int) (L2 : LS) (n n2 k l : Nat) (g F F2 : Nat → Nat → AV) : LocOk Try.prog 40 [.ptr 1 0 0, .ptr 3 0 0] (rt0cH b fl2 s2 L2 n n2 k l g F F2) (rt0cR b fl2 s2 L2 n n2 k l g F F2) := by
  refine loc_of_call EP0_ok (fun hp => ?_)
  have hpp : RtPre b 0 fl2 n n2 k l g F F2 := hp _ (List.mem_cons_self ..)
  have hO : dWord (dOf k g) 8 (Int.ofNat n) 0 = 0 := hp _ (List.mem_cons_of_mem _ (List.mem_cons_self ..))
  have hov : Int.ofNat n2 ≠ 4 * b := hp _ (List.mem_cons_of_mem _ (List.mem_cons_of_mem _ (List.mem_cons_self ..)))
  clear hp
  have e := hpp.n0 rfl
  have hm := hpp.nm
  have hkm := hpp.km
  have hbb := hpp.bb
  have hw : IntKind.i64.wrap (Int.ofNat (n + 1) - 1) = Int.ofNat n := rt_wrap (by omega) (by omega)
  have hw2 : IntKind.i64.wrap (Int.ofNat (n + 1) - 1) = Int.ofNat (n2 - 1) := by rw [e]; exact hw
  have hd : dWord (dOf k g) 8 (IntKind.i64.wrap (Int.ofNat (n + 1) - 1)) 0 = dWord (dOf k g) 8 (Int.ofNat (n2 - 1)) 0 := by rw [hw2]
  have hO2 : avInt (F2 (n2 - 1) 0) = dWord (dOf k g) 8 (Int.ofNat n) 0 := by
    rw [hpp.ff, e]; unfold tkF; rw [if_pos (show n + 1 - 1 = (Int.ofNat (n + 1 - 1)).toNat from rfl), if_pos (show 0 = (0 : Int).toNat from rfl)]; rfl
  have hb1 : ((IntKind.i64.wrap (Int.ofNat (n + 1) - 1)).toNat.blt (n + 1) && decide (0 ≤ IntKind.i64.wrap (Int.ofNat (n + 1) - 1))) = true := by
    rw [hw, Bool.and_eq_true]; exact ⟨Nat.ble_eq_true_of_le (show (Int.ofNat n).toNat + 1 ≤ n + 1 from Nat.le_refl _), decide_eq_true (by simp)⟩
  have hb2 : (0 + (IntKind.i64.wrap (Int.ofNat (n + 1) - 1)).toNat).blt (n + 1) = true := by
    rw [hw, Nat.zero_add]; exact Nat.ble_eq_true_of_le (show (Int.ofNat n).toNat + 1 ≤ n + 1 from Nat.le_refl _)
  have hb3 : n + 1 ≤ n2 := by omega
  have hz : ∀ f, (avInt (upd f (0 + (IntKind.i64.wrap (Int.ofNat (n + 1) - 1)).toNat) 0 [AV.sym .u64 (dWord (dOf k g) 8 (IntKind.i64.wrap (Int.ofNat (n + 1) - 1)) 0)] (0 + (IntKind.i64.wrap (Int.ofNat (n + 1) - 1)).toNat) 0) == 0) = true := fun f => by
    rw [upd_same, hw]; exact beq_iff_eq.2 hO
  have hfl2 : 0 = fl2 := by rw [hpp.fl2, hO2, if_pos (.inl hO)] <;> rfl
  have hb4 : IntKind.i64.wrap (4 * b) = 4 * b := i64w (by omega) (by omega)
  have hb5 : IntKind.i64.wrap (IntKind.i64.wrap (Int.ofNat (n + 1) - 1) + 1) = Int.ofNat (n + 1) := by rw [hw, i64w (by simp; omega) (by simp; omega)]; first | (simp; done) | (simp; omega)
  have hov2 : (IntKind.i64.wrap (IntKind.i64.wrap (Int.ofNat (n + 1) - 1) + 1) == IntKind.i64.wrap (4 * b)) = false := by
    rw [hb5, hb4]
    rw [e] at hov
    exact beq_eq_false_iff_ne.2 hov

  refine ⟨3000, _, _, _, rt0c_1 .., (ob_cons rfl (ob_cons ?_ (ob_cons rfl (ob_cons rfl (ob_cons ?_ (ob_cons rfl (ob_cons ?_ (ob_cons ?_ (ob_cons rfl (ob_cons rfl (ob_cons rfl (ob_cons ?_ (ob_cons rfl (ob_cons rfl (ob_cons ?_ (ob_cons rfl (ob_cons ?_ (ob_cons ?_ (ob_cons ?_ (ob_cons rfl (ob_cons (Nat.le_refl _) (ob_cons (.inl ⟨rfl, rfl⟩) (ob_cons ?_ (ob_cons ?_ (ob_cons ?_ (ob_cons ?_ (ob_cons ?_ (ob_cons ?_ (ob_cons ?_ (ob_cons ?_ (ob_cons ?_ (ob_cons ?_ ob_nil))))))))))))))))))))))))))))))))⟩
  · exact e.symm
  · exact hfl2
  · omega
  · exact .inr (fun i hi => rt_rows hpp rfl rfl i (by omega))
  · exact rfl
  · exact hw2
  · exact hd
  · exact hd
  · exact rfl
  · exact hov2
  · exact hz _
  · exact hb2
  · exact hb2
  · exact hb1
  · exact hpp.kl
  · omega
  · (apply Nat.ble_eq_true_of_le; omega)
  · (simp; done)
  · exact rfl
theorem rt0o_1 (b fl2 s2 : Int) (L2 : LS) (n n2 k l : Nat) (g F F2 : Nat → Nat → AV) : callB EP0 3000 40 [AV.ptr 1 0 0, AV.ptr 3 0 0] (rt0oH b fl2 s2 L2 n n2 k l g F F2) (rt0oR b fl2 s2 L2 n n2 k l g F F2) [(5, Src.nm 6)] [Hint.b true, Hint.k 1, Hint.b true, Hint.b true] =
 some ([(0 : Nat) = 0,
 n + 1 = n2,
 (none : Option Nat) = none,
 b = b,
 0 = fl2,
 false = false,
 n2 ≤ n + 1,
 F2 = upd (fun i j => if i < n then F (0 + i) j else rowsOf 10 [cellOf (Value.int IntKind.u64 0), cellOf (Value.int IntKind.u64 0), cellOf (Value.int IntKind.u64 0), cellOf (Value.int IntKind.u64 0), cellOf (Value.int IntKind.u64 0), cellOf (Value.int IntKind.u64 0), cellOf (Value.int IntKind.u64 0), cellOf (Value.int IntKind.u64 0), cellOf (Value.int IntKind.u64 0), cellOf (Value.int IntKind.u64 0)] (i - n) j) (0 + (IntKind.i64.wrap (Int.ofNat (n + 1) - 1)).toNat) 0 (AV.sym IntKind.u64 (dWord (dOf k g) 8 (IntKind.i64.wrap (Int.ofNat (n + 1) - 1)) 0)).cells ∧ plainSh tSh = true ∨ ∀ (i : Nat), i < n2 → rowOb tSh 0 (upd (fun i j => if i < n then F (0 + i) j else rowsOf 10 [cellOf (Value.int IntKind.u64 0), cellOf (Value.int IntKind.u64 0), cellOf (Value.int IntKind.u64 0), cellOf (Value.int IntKind.u64 0), cellOf (Value.int IntKind.u64 0), cellOf (Value.int IntKind.u64 0), cellOf (Value.int IntKind.u64 0), cellOf (Value.int IntKind.u64 0), cellOf (Value.int IntKind.u64 0), cellOf (Value.int IntKind.u64 0)] (i - n) j) (0 + (IntKind.i64.wrap (Int.ofNat (n + 1) - 1)).toNat) 0 (AV.sym IntKind.u64 (dWord (dOf k g) 8 (IntKind.i64.wrap (Int.ofNat (n + 1) - 1)) 0)).cells i) (F2 i),
 (0 : Nat) = 0,
 k = k,
 (none : Option Nat) = none,
 IntKind.i64.wrap (s2 + 1) = (rLoad (mkR k g s2 L2) 8 (Int.ofNat (n2 - 1)) 0).st,
 (1 : Int) = 1,
 (8 : Int) = 8,
 IntKind.i64.wrap (Int.ofNat (n + 1) - 1) = (rLoad (mkR k g s2 L2) 8 (Int.ofNat (n2 - 1)) 0).L.a,
 (0 : Int) = 0,
 dWord (dOf k g) 8 (IntKind.i64.wrap (Int.ofNat (n + 1) - 1)) 0 = (rLoad (mkR k g s2 L2) 8 (Int.ofNat (n2 - 1)) 0).L.w,
 dWord (dOf k g) 8 (IntKind.i64.wrap (Int.ofNat (n + 1) - 1)) 0 = (rLoad (mkR k g s2 L2) 8 (Int.ofNat (n2 - 1)) 0).L.i,
 false = (rLoad (mkR k g s2 L2) 8 (Int.ofNat (n2 - 1)) 0).L.d,
 false = false,
 l ≤ l,
 g = g ∧ plainSh wSh = true ∨ ∀ (i : Nat), i < l → rowOb wSh 0 (g i) (g i),
 (IntKind.i64.wrap (IntKind.i64.wrap (Int.ofNat (n + 1) - 1) + 1) == IntKind.i64.wrap (4 * b)) = true,
 (avInt (upd (fun i j => if i < n then F (0 + i) j else rowsOf 10 [cellOf (Value.int IntKind.u64 0), cellOf (Value.int IntKind.u64 0), cellOf (Value.int IntKind.u64 0), cellOf (Value.int IntKind.u64 0), cellOf (Value.int IntKind.u64 0), cellOf (Value.int IntKind.u64 0), cellOf (Value.int IntKind.u64 0), cellOf (Value.int IntKind.u64 0), cellOf (Value.int IntKind.u64 0), cellOf (Value.int IntKind.u64 0)] (i - n) j) (0 + (IntKind.i64.wrap (Int.ofNat (n + 1) - 1)).toNat) 0 (AV.sym IntKind.u64 (dWord (dOf k g) 8 (IntKind.i64.wrap (Int.ofNat (n + 1) - 1)) 0)).cells (0 + (IntKind.i64.wrap (Int.ofNat (n + 1) - 1)).toNat) 0) == 0) = true,
 (0 + (IntKind.i64.wrap (Int.ofNat (n + 1) - 1)).toNat).blt (n + 1) = true,
 (0 + (IntKind.i64.wrap (Int.ofNat (n + 1) - 1)).toNat).blt (n + 1) = true,
 ((IntKind.i64.wrap (Int.ofNat (n + 1) - 1)).toNat.blt (n + 1) && decide (0 ≤ IntKind.i64.wrap (Int.ofNat (n + 1) - 1))) = true,
 k ≤ l,
 k ≤ 1000000,
 ((n + 1) * 80).ble 70368744177664 = true,
 (0 + n).ble n = true,
 ((0 : Int) == (0 : Int)) = true]) := by kernel_rfl
theorem rt0o_loc (b fl2 s2 : Int) (L2 : LS) (n n2 k l : Nat) (g F F2 : Nat → Nat → AV) : LocOk Try.prog 40 [.ptr 1 0 0, .ptr 3 0 0] (rt0oH b fl2 s2 L2 n n2 k l g F F2) (rt0oR b fl2 s2 L2 n n2 k l g F F2) := by
  refine loc_of_call EP0_ok (fun hp => ?_)
  have hpp : RtPre b 0 fl2 n n2 k l g F F2 := hp _ (List.mem_cons_self ..)
  have hO : dWord (dOf k g) 8 (Int.ofNat n) 0 = 0 := hp _ (List.mem_cons_of_mem _ (List.mem_cons_self ..))
  have hov : Int.ofNat n2 = 4 * b := hp _ (List.mem_cons_of_mem _ (List.mem_cons_of_mem _ (List.mem_cons_self ..)))
  clear hp
  have e := hpp.n0 rfl
  have hm := hpp.nm
  have hkm := hpp.km
  have hbb := hpp.bb
  have hw : IntKind.i64.wrap (Int.ofNat (n + 1) - 1) = Int.ofNat n := rt_wrap (by omega) (by omega)
  have hw2 : IntKind.i64.wrap (Int.ofNat (n + 1) - 1) = Int.ofNat (n2 - 1) := by rw [e]; exact hw
  have hd : dWord (dOf k g) 8 (IntKind.i64.wrap (Int.ofNat (n + 1) - 1)) 0 = dWord (dOf k g) 8 (Int.ofNat (n2 - 1)) 0 := by rw [hw2]
  have hO2 : avInt (F2 (n2 - 1) 0) = dWord (dOf k g) 8 (Int.ofNat n) 0 := by
    rw [hpp.ff, e]; unfold tkF; rw [if_pos (show n + 1 - 1 = (Int.ofNat (n + 1 - 1)).toNat from rfl), if_pos (show 0 = (0 : Int).toNat from rfl)]; rfl
  have hb1 : ((IntKind.i64.wrap (Int.ofNat (n + 1) - 1)).toNat.blt (n + 1) && decide (0 ≤ IntKind.i64.wrap (Int.ofNat (n + 1) - 1))) = true := by
    rw [hw, Bool.and_eq_true]; exact ⟨Nat.ble_eq_true_of_le (show (Int.ofNat n).toNat + 1 ≤ n + 1 from Nat.le_refl _), decide_eq_true (by simp)⟩
  have hb2 : (0 + (IntKind.i64.wrap (Int.ofNat (n + 1) - 1)).toNat).blt (n + 1) = true := by
    rw [hw, Nat.zero_add]; exact Nat.ble_eq_true_of_le (show (Int.ofNat n).toNat + 1 ≤ n + 1 from Nat.le_refl _)
  have hb3 : n + 1 ≤ n2 := by omega
  have hz : ∀ f, (avInt (upd f (0 + (IntKind.i64.wrap (Int.ofNat (n + 1) - 1)).toNat) 0 [AV.sym .u64 (dWord (dOf k g) 8 (IntKind.i64.wrap (Int.ofNat (n + 1) - 1)) 0)] (0 + (IntKind.i64.wrap (Int.ofNat (n + 1) - 1)).toNat) 0) == 0) = true := fun f => by
    rw [upd_same, hw]; exact beq_iff_eq.2 hO
  have hfl2 : 0 = fl2 := by rw [hpp.fl2, hO2, if_pos (.inl hO)] <;> rfl
  have hb4 : IntKind.i64.wrap (4 * b) = 4 * b := i64w (by omega) (by omega)
  have hb5 : IntKind.i64.wrap (IntKind.i64.wrap (Int.ofNat (n + 1) - 1) + 1) = Int.ofNat (n + 1) := by rw [hw, i64w (by simp; omega) (by simp; omega)]; first | (simp; done) | (simp; omega)
  have hov2 : (IntKind.i64.wrap (IntKind.i64.wrap (Int.ofNat (n + 1) - 1) + 1) == IntKind.i64.wrap (4 * b)) = true := by
    rw [hb5, hb4]
    rw [e] at hov
    exact beq_iff_eq.2 hov

  refine ⟨3000, _, _, _, rt0o_1 .., (ob_cons rfl (ob_cons ?_ (ob_cons rfl (ob_cons rfl (ob_cons ?_ (ob_cons rfl (ob_cons ?_ (ob_cons ?_ (ob_cons rfl (ob_cons rfl (ob_cons rfl (ob_cons ?_ (ob_cons rfl (ob_cons rfl (ob_cons ?_ (ob_cons rfl (ob_cons ?_ (ob_cons ?_ (ob_cons ?_ (ob_cons rfl (ob_cons (Nat.le_refl _) (ob_cons (.inl ⟨rfl, rfl⟩) (ob_cons ?_ (ob_cons ?_ (ob_cons ?_ (ob_cons ?_ (ob_cons ?_ (ob_cons ?_ (ob_cons ?_ (ob_cons ?_ (ob_cons ?_ (ob_cons ?_ ob_nil))))))))))))))))))))))))))))))))⟩
  · exact e.symm
  · exact hfl2
  · omega
  · exact .inr (fun i hi => rt_rows hpp rfl rfl i (by omega))
  · exact rfl
  · exact hw2
  · exact hd
  · exact hd
  · exact rfl
  · exact hov2
  · exact hz _
  · exact hb2
  · exact hb2
  · exact hb1
  · exact hpp.kl
  · omega
  · (apply Nat.ble_eq_true_of_le; omega)
  · (simp; done)
  · exact rfl
end Go.Proofs.Ytmlfmmnnbdlabaa
