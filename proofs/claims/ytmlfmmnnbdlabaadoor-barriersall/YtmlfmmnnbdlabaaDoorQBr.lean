/-
  Barriers: the document's step at a word: ways.
-/
import Derived.Test.YtmlfmmnnbdlabaaDoorQBrDef
set_option linter.unusedSimpArgs false
set_option linter.unusedVariables false
namespace Go.Proofs.YtmlfmmnnbdlabaaDoor
open Go.Ev
theorem br0n_1 (nb lk th al wt en lk2 th2 ln2 wt2 en2 s2 : Int) (L2 : LS) (k l : Nat) (g : Nat → Nat → AV) : callB EBr 4000 10 [AV.ptr 1 0 0, AV.ptr 2 0 0] (br0nH nb lk th al wt en lk2 th2 ln2 wt2 en2 s2 L2 k l g) (br0nR nb lk th al wt en lk2 th2 ln2 wt2 en2 s2 L2 k l g) [] [Hint.b true, Hint.b false] =
 some ([2 = ln2,
 nb = nb,
 lk = lk2,
 en = en2,
 -1 = wt2,
 IntKind.i64.wrap (th + 1) = th2,
 al = al,
 (0 : Nat) = 0,
 k = k,
 (none : Option Nat) = none,
 IntKind.i64.wrap (s2 + 1) = (rLoad (mkR k g s2 L2) 8 th 0).st,
 (1 : Int) = 1,
 (8 : Int) = 8,
 th = (rLoad (mkR k g s2 L2) 8 th 0).L.a,
 (0 : Int) = 0,
 dWord (dOf k g) 8 th 0 = (rLoad (mkR k g s2 L2) 8 th 0).L.w,
 dWord (dOf k g) 8 th 0 = (rLoad (mkR k g s2 L2) 8 th 0).L.i,
 false = (rLoad (mkR k g s2 L2) 8 th 0).L.d,
 false = false,
 l ≤ l,
 g = g ∧ plainSh wSh = true ∨ ∀ (i : Nat), i < l → rowOb wSh 0 (g i) (g i),
 (IntKind.i64.wrap (th + 1) == al) = false,
 (dWord (dOf k g) 8 th 0 == 0) = true,
 k ≤ l,
 k ≤ 1000000]) := by kernel_rfl
theorem br0n_loc (nb lk th al wt en lk2 th2 ln2 wt2 en2 s2 : Int) (L2 : LS) (k l : Nat) (g : Nat → Nat → AV) : LocOk Tryd.prog 10 [.ptr 1 0 0, .ptr 2 0 0] (br0nH nb lk th al wt en lk2 th2 ln2 wt2 en2 s2 L2 k l g) (br0nR nb lk th al wt en lk2 th2 ln2 wt2 en2 s2 L2 k l g) := by
  refine loc_of_call EBr_ok (fun hp => ?_)
  have hp1 : 0 ≤ th ∧ th < al ∧ al ≤ 16 ∧ -9223372036854775808 ≤ lk ∧ lk ≤ 1000 := hp _ (List.mem_cons_self ..)
  have hkl : k ≤ l := hp _ (List.mem_cons_of_mem _ (List.mem_cons_self ..))
  have hkm : k ≤ 100000 := hp _ (List.mem_cons_of_mem _ (List.mem_cons_of_mem _ (List.mem_cons_self ..)))
  have hr : 0 ≤ nb ∧ nb < 18446744073709551616 ∧ 0 ≤ dWord (dOf k g) 8 th 2 ∧ dWord (dOf k g) 8 th 2 < 18446744073709551616 := hp _ (List.mem_cons_of_mem _ (List.mem_cons_of_mem _ (List.mem_cons_of_mem _ (List.mem_cons_self ..))))
  have hb1 : (dWord (dOf k g) 8 th 0 == 0) = true := hp _ (List.mem_cons_of_mem _ (List.mem_cons_of_mem _ (List.mem_cons_of_mem _ (List.mem_cons_of_mem _ (List.mem_cons_self ..)))))
  have hc : th + 1 ≠ al := hp _ (List.mem_cons_of_mem _ (List.mem_cons_of_mem _ (List.mem_cons_of_mem _ (List.mem_cons_of_mem _ (List.mem_cons_of_mem _ (List.mem_cons_self ..))))))
  have q1 : lk = lk2 := hp _ (List.mem_cons_of_mem _ (List.mem_cons_of_mem _ (List.mem_cons_of_mem _ (List.mem_cons_of_mem _ (List.mem_cons_of_mem _ (List.mem_cons_of_mem _ (List.mem_cons_self ..)))))))
  have q2 : th + 1 = th2 := hp _ (List.mem_cons_of_mem _ (List.mem_cons_of_mem _ (List.mem_cons_of_mem _ (List.mem_cons_of_mem _ (List.mem_cons_of_mem _ (List.mem_cons_of_mem _ (List.mem_cons_of_mem _ (List.mem_cons_self ..))))))))
  have q3 : (2 : Int) = ln2 := hp _ (List.mem_cons_of_mem _ (List.mem_cons_of_mem _ (List.mem_cons_of_mem _ (List.mem_cons_of_mem _ (List.mem_cons_of_mem _ (List.mem_cons_of_mem _ (List.mem_cons_of_mem _ (List.mem_cons_of_mem _ (List.mem_cons_self ..)))))))))
  have q4 : -1 = wt2 := hp _ (List.mem_cons_of_mem _ (List.mem_cons_of_mem _ (List.mem_cons_of_mem _ (List.mem_cons_of_mem _ (List.mem_cons_of_mem _ (List.mem_cons_of_mem _ (List.mem_cons_of_mem _ (List.mem_cons_of_mem _ (List.mem_cons_of_mem _ (List.mem_cons_self ..))))))))))
  have q5 : en = en2 := hp _ (List.mem_cons_of_mem _ (List.mem_cons_of_mem _ (List.mem_cons_of_mem _ (List.mem_cons_of_mem _ (List.mem_cons_of_mem _ (List.mem_cons_of_mem _ (List.mem_cons_of_mem _ (List.mem_cons_of_mem _ (List.mem_cons_of_mem _ (List.mem_cons_of_mem _ (List.mem_cons_self ..)))))))))))
  clear hp
  have hw1 : IntKind.i64.wrap (th + 1) = th + 1 := i64w (by omega) (by omega)
  have hb2 : (IntKind.i64.wrap (th + 1) == al) = false := by rw [hw1]; exact beq_eq_false_iff_ne.2 hc
  have hw2 : IntKind.i64.wrap (th + 1) = th2 := by rw [hw1]; exact q2
  refine ⟨4000, _, _, _, br0n_1 .., (ob_cons ?_ (ob_cons rfl (ob_cons ?_ (ob_cons ?_ (ob_cons ?_ (ob_cons ?_ (ob_cons rfl (ob_cons rfl (ob_cons rfl (ob_cons rfl (ob_cons ?_ (ob_cons rfl (ob_cons rfl (ob_cons ?_ (ob_cons rfl (ob_cons ?_ (ob_cons ?_ (ob_cons ?_ (ob_cons rfl (ob_cons (Nat.le_refl _) (ob_cons (.inl ⟨rfl, rfl⟩) (ob_cons ?_ (ob_cons ?_ (ob_cons ?_ (ob_cons ?_ ob_nil)))))))))))))))))))))))))⟩
  · exact q3
  · exact q1
  · exact q5
  · exact q4
  · exact hw2
  · exact rfl
  · exact rfl
  · exact rfl
  · exact rfl
  · exact rfl
  · exact hb2
  · exact hb1
  · exact hkl
  · omega
theorem br0o_1 (nb lk th al wt en lk2 th2 ln2 wt2 en2 s2 : Int) (L2 : LS) (k l : Nat) (g : Nat → Nat → AV) : callB EBr 4000 10 [AV.ptr 1 0 0, AV.ptr 2 0 0] (br0oH nb lk th al wt en lk2 th2 ln2 wt2 en2 s2 L2 k l g) (br0oR nb lk th al wt en lk2 th2 ln2 wt2 en2 s2 L2 k l g) [] [Hint.b true, Hint.b true] =
 some ([nb = nb,
 lk = lk2,
 0 = en2,
 -1 = wt2,
 IntKind.i64.wrap (th + 1) = th2,
 al = al,
 (0 : Nat) = 0,
 k = k,
 (none : Option Nat) = none,
 IntKind.i64.wrap (s2 + 1) = (rLoad (mkR k g s2 L2) 8 th 0).st,
 (1 : Int) = 1,
 (8 : Int) = 8,
 th = (rLoad (mkR k g s2 L2) 8 th 0).L.a,
 (0 : Int) = 0,
 dWord (dOf k g) 8 th 0 = (rLoad (mkR k g s2 L2) 8 th 0).L.w,
 dWord (dOf k g) 8 th 0 = (rLoad (mkR k g s2 L2) 8 th 0).L.i,
 false = (rLoad (mkR k g s2 L2) 8 th 0).L.d,
 false = false,
 l ≤ l,
 g = g ∧ plainSh wSh = true ∨ ∀ (i : Nat), i < l → rowOb wSh 0 (g i) (g i),
 (IntKind.i64.wrap (th + 1) == al) = true,
 (dWord (dOf k g) 8 th 0 == 0) = true,
 k ≤ l,
 k ≤ 1000000]) := by kernel_rfl
theorem br0o_loc (nb lk th al wt en lk2 th2 ln2 wt2 en2 s2 : Int) (L2 : LS) (k l : Nat) (g : Nat → Nat → AV) : LocOk Tryd.prog 10 [.ptr 1 0 0, .ptr 2 0 0] (br0oH nb lk th al wt en lk2 th2 ln2 wt2 en2 s2 L2 k l g) (br0oR nb lk th al wt en lk2 th2 ln2 wt2 en2 s2 L2 k l g) := by
  refine loc_of_call EBr_ok (fun hp => ?_)
  have hp1 : 0 ≤ th ∧ th < al ∧ al ≤ 16 ∧ -9223372036854775808 ≤ lk ∧ lk ≤ 1000 := hp _ (List.mem_cons_self ..)
  have hkl : k ≤ l := hp _ (List.mem_cons_of_mem _ (List.mem_cons_self ..))
  have hkm : k ≤ 100000 := hp _ (List.mem_cons_of_mem _ (List.mem_cons_of_mem _ (List.mem_cons_self ..)))
  have hr : 0 ≤ nb ∧ nb < 18446744073709551616 ∧ 0 ≤ dWord (dOf k g) 8 th 2 ∧ dWord (dOf k g) 8 th 2 < 18446744073709551616 := hp _ (List.mem_cons_of_mem _ (List.mem_cons_of_mem _ (List.mem_cons_of_mem _ (List.mem_cons_self ..))))
  have hb1 : (dWord (dOf k g) 8 th 0 == 0) = true := hp _ (List.mem_cons_of_mem _ (List.mem_cons_of_mem _ (List.mem_cons_of_mem _ (List.mem_cons_of_mem _ (List.mem_cons_self ..)))))
  have hc : th + 1 = al := hp _ (List.mem_cons_of_mem _ (List.mem_cons_of_mem _ (List.mem_cons_of_mem _ (List.mem_cons_of_mem _ (List.mem_cons_of_mem _ (List.mem_cons_self ..))))))
  have q1 : lk = lk2 := hp _ (List.mem_cons_of_mem _ (List.mem_cons_of_mem _ (List.mem_cons_of_mem _ (List.mem_cons_of_mem _ (List.mem_cons_of_mem _ (List.mem_cons_of_mem _ (List.mem_cons_self ..)))))))
  have q2 : th + 1 = th2 := hp _ (List.mem_cons_of_mem _ (List.mem_cons_of_mem _ (List.mem_cons_of_mem _ (List.mem_cons_of_mem _ (List.mem_cons_of_mem _ (List.mem_cons_of_mem _ (List.mem_cons_of_mem _ (List.mem_cons_self ..))))))))
  have q4 : -1 = wt2 := hp _ (List.mem_cons_of_mem _ (List.mem_cons_of_mem _ (List.mem_cons_of_mem _ (List.mem_cons_of_mem _ (List.mem_cons_of_mem _ (List.mem_cons_of_mem _ (List.mem_cons_of_mem _ (List.mem_cons_of_mem _ (List.mem_cons_self ..)))))))))
  have q5 : 0 = en2 := hp _ (List.mem_cons_of_mem _ (List.mem_cons_of_mem _ (List.mem_cons_of_mem _ (List.mem_cons_of_mem _ (List.mem_cons_of_mem _ (List.mem_cons_of_mem _ (List.mem_cons_of_mem _ (List.mem_cons_of_mem _ (List.mem_cons_of_mem _ (List.mem_cons_self ..))))))))))
  clear hp
  have hw1 : IntKind.i64.wrap (th + 1) = th + 1 := i64w (by omega) (by omega)
  have hb2 : (IntKind.i64.wrap (th + 1) == al) = true := by rw [hw1]; exact beq_iff_eq.2 hc
  have hw2 : IntKind.i64.wrap (th + 1) = th2 := by rw [hw1]; exact q2
  refine ⟨4000, _, _, _, br0o_1 .., (ob_cons rfl (ob_cons ?_ (ob_cons ?_ (ob_cons ?_ (ob_cons ?_ (ob_cons rfl (ob_cons rfl (ob_cons rfl (ob_cons rfl (ob_cons ?_ (ob_cons rfl (ob_cons rfl (ob_cons ?_ (ob_cons rfl (ob_cons ?_ (ob_cons ?_ (ob_cons ?_ (ob_cons rfl (ob_cons (Nat.le_refl _) (ob_cons (.inl ⟨rfl, rfl⟩) (ob_cons ?_ (ob_cons ?_ (ob_cons ?_ (ob_cons ?_ ob_nil))))))))))))))))))))))))⟩
  · exact q1
  · exact q5
  · exact q4
  · exact hw2
  · exact rfl
  · exact rfl
  · exact rfl
  · exact rfl
  · exact rfl
  · exact hb2
  · exact hb1
  · exact hkl
  · omega
theorem br0f_1 (nb lk th al wt en lk2 th2 ln2 wt2 en2 s2 : Int) (L2 : LS) (k l : Nat) (g : Nat → Nat → AV) : callB EBr 4000 10 [AV.ptr 1 0 0, AV.ptr 2 0 0] (br0fH nb lk th al wt en lk2 th2 ln2 wt2 en2 s2 L2 k l g) (br0fR nb lk th al wt en lk2 th2 ln2 wt2 en2 s2 L2 k l g) [] [Hint.b false] =
 some ([3 = ln2,
 nb = nb,
 lk = lk2,
 en = en2,
 wt = wt2,
 th = th2,
 al = al,
 (0 : Nat) = 0,
 k = k,
 (none : Option Nat) = none,
 IntKind.i64.wrap (s2 + 1) = (rLoad (mkR k g s2 L2) 8 th 0).st,
 (1 : Int) = 1,
 (8 : Int) = 8,
 th = (rLoad (mkR k g s2 L2) 8 th 0).L.a,
 (0 : Int) = 0,
 dWord (dOf k g) 8 th 0 = (rLoad (mkR k g s2 L2) 8 th 0).L.w,
 dWord (dOf k g) 8 th 0 = (rLoad (mkR k g s2 L2) 8 th 0).L.i,
 false = (rLoad (mkR k g s2 L2) 8 th 0).L.d,
 false = false,
 l ≤ l,
 g = g ∧ plainSh wSh = true ∨ ∀ (i : Nat), i < l → rowOb wSh 0 (g i) (g i),
 (dWord (dOf k g) 8 th 0 == 0) = false,
 k ≤ l,
 k ≤ 1000000]) := by kernel_rfl
theorem br0f_loc (nb lk th al wt en lk2 th2 ln2 wt2 en2 s2 : Int) (L2 : LS) (k l : Nat) (g : Nat → Nat → AV) : LocOk Tryd.prog 10 [.ptr 1 0 0, .ptr 2 0 0] (br0fH nb lk th al wt en lk2 th2 ln2 wt2 en2 s2 L2 k l g) (br0fR nb lk th al wt en lk2 th2 ln2 wt2 en2 s2 L2 k l g) := by
  refine loc_of_call EBr_ok (fun hp => ?_)
  have hp1 : 0 ≤ th ∧ th < al ∧ al ≤ 16 ∧ -9223372036854775808 ≤ lk ∧ lk ≤ 1000 := hp _ (List.mem_cons_self ..)
  have hkl : k ≤ l := hp _ (List.mem_cons_of_mem _ (List.mem_cons_self ..))
  have hkm : k ≤ 100000 := hp _ (List.mem_cons_of_mem _ (List.mem_cons_of_mem _ (List.mem_cons_self ..)))
  have hr : 0 ≤ nb ∧ nb < 18446744073709551616 ∧ 0 ≤ dWord (dOf k g) 8 th 2 ∧ dWord (dOf k g) 8 th 2 < 18446744073709551616 := hp _ (List.mem_cons_of_mem _ (List.mem_cons_of_mem _ (List.mem_cons_of_mem _ (List.mem_cons_self ..))))
  have hb1 : (dWord (dOf k g) 8 th 0 == 0) = false := hp _ (List.mem_cons_of_mem _ (List.mem_cons_of_mem _ (List.mem_cons_of_mem _ (List.mem_cons_of_mem _ (List.mem_cons_self ..)))))
  have q1 : lk = lk2 := hp _ (List.mem_cons_of_mem _ (List.mem_cons_of_mem _ (List.mem_cons_of_mem _ (List.mem_cons_of_mem _ (List.mem_cons_of_mem _ (List.mem_cons_self ..))))))
  have q2 : th = th2 := hp _ (List.mem_cons_of_mem _ (List.mem_cons_of_mem _ (List.mem_cons_of_mem _ (List.mem_cons_of_mem _ (List.mem_cons_of_mem _ (List.mem_cons_of_mem _ (List.mem_cons_self ..)))))))
  have q3 : (3 : Int) = ln2 := hp _ (List.mem_cons_of_mem _ (List.mem_cons_of_mem _ (List.mem_cons_of_mem _ (List.mem_cons_of_mem _ (List.mem_cons_of_mem _ (List.mem_cons_of_mem _ (List.mem_cons_of_mem _ (List.mem_cons_self ..))))))))
  have q4 : wt = wt2 := hp _ (List.mem_cons_of_mem _ (List.mem_cons_of_mem _ (List.mem_cons_of_mem _ (List.mem_cons_of_mem _ (List.mem_cons_of_mem _ (List.mem_cons_of_mem _ (List.mem_cons_of_mem _ (List.mem_cons_of_mem _ (List.mem_cons_self ..)))))))))
  have q5 : en = en2 := hp _ (List.mem_cons_of_mem _ (List.mem_cons_of_mem _ (List.mem_cons_of_mem _ (List.mem_cons_of_mem _ (List.mem_cons_of_mem _ (List.mem_cons_of_mem _ (List.mem_cons_of_mem _ (List.mem_cons_of_mem _ (List.mem_cons_of_mem _ (List.mem_cons_self ..))))))))))
  clear hp
  refine ⟨4000, _, _, _, br0f_1 .., (ob_cons ?_ (ob_cons rfl (ob_cons ?_ (ob_cons ?_ (ob_cons ?_ (ob_cons ?_ (ob_cons rfl (ob_cons rfl (ob_cons rfl (ob_cons rfl (ob_cons ?_ (ob_cons rfl (ob_cons rfl (ob_cons ?_ (ob_cons rfl (ob_cons ?_ (ob_cons ?_ (ob_cons ?_ (ob_cons rfl (ob_cons (Nat.le_refl _) (ob_cons (.inl ⟨rfl, rfl⟩) (ob_cons ?_ (ob_cons ?_ (ob_cons ?_ ob_nil))))))))))))))))))))))))⟩
  · exact q3
  · exact q1
  · exact q5
  · exact q4
  · exact q2
  · exact rfl
  · exact rfl
  · exact rfl
  · exact rfl
  · exact rfl
  · exact hb1
  · exact hkl
  · omega
theorem br1n_1 (nb lk th al wt en lk2 th2 ln2 wt2 en2 s2 : Int) (L2 : LS) (k l : Nat) (g : Nat → Nat → AV) : callB EBr 4000 10 [AV.ptr 1 0 0, AV.ptr 2 0 0] (br1nH nb lk th al wt en lk2 th2 ln2 wt2 en2 s2 L2 k l g) (br1nR nb lk th al wt en lk2 th2 ln2 wt2 en2 s2 L2 k l g) [] [Hint.b true, Hint.b false] =
 some ([2 = ln2,
 nb = nb,
 lk = lk2,
 en = en2,
 -1 = wt2,
 IntKind.i64.wrap (th + 1) = th2,
 al = al,
 (0 : Nat) = 0,
 k = k,
 (none : Option Nat) = none,
 IntKind.i64.wrap (s2 + 1) = (rLoad (mkR k g s2 L2) 8 th 1).st,
 (1 : Int) = 1,
 (8 : Int) = 8,
 th = (rLoad (mkR k g s2 L2) 8 th 1).L.a,
 (1 : Int) = 1,
 dWord (dOf k g) 8 th 1 = (rLoad (mkR k g s2 L2) 8 th 1).L.w,
 dWord (dOf k g) 8 th 1 = (rLoad (mkR k g s2 L2) 8 th 1).L.i,
 false = (rLoad (mkR k g s2 L2) 8 th 1).L.d,
 false = false,
 l ≤ l,
 g = g ∧ plainSh wSh = true ∨ ∀ (i : Nat), i < l → rowOb wSh 0 (g i) (g i),
 (IntKind.i64.wrap (th + 1) == al) = false,
 (dWord (dOf k g) 8 th 1 == 0) = true,
 k ≤ l,
 k ≤ 1000000]) := by kernel_rfl
theorem br1n_loc (nb lk th al wt en lk2 th2 ln2 wt2 en2 s2 : Int) (L2 : LS) (k l : Nat) (g : Nat → Nat → AV) : LocOk Tryd.prog 10 [.ptr 1 0 0, .ptr 2 0 0] (br1nH nb lk th al wt en lk2 th2 ln2 wt2 en2 s2 L2 k l g) (br1nR nb lk th al wt en lk2 th2 ln2 wt2 en2 s2 L2 k l g) := by
  refine loc_of_call EBr_ok (fun hp => ?_)
  have hp1 : 0 ≤ th ∧ th < al ∧ al ≤ 16 ∧ -9223372036854775808 ≤ lk ∧ lk ≤ 1000 := hp _ (List.mem_cons_self ..)
  have hkl : k ≤ l := hp _ (List.mem_cons_of_mem _ (List.mem_cons_self ..))
  have hkm : k ≤ 100000 := hp _ (List.mem_cons_of_mem _ (List.mem_cons_of_mem _ (List.mem_cons_self ..)))
  have hr : 0 ≤ nb ∧ nb < 18446744073709551616 ∧ 0 ≤ dWord (dOf k g) 8 th 2 ∧ dWord (dOf k g) 8 th 2 < 18446744073709551616 := hp _ (List.mem_cons_of_mem _ (List.mem_cons_of_mem _ (List.mem_cons_of_mem _ (List.mem_cons_self ..))))
  have hb1 : (dWord (dOf k g) 8 th 1 == 0) = true := hp _ (List.mem_cons_of_mem _ (List.mem_cons_of_mem _ (List.mem_cons_of_mem _ (List.mem_cons_of_mem _ (List.mem_cons_self ..)))))
  have hc : th + 1 ≠ al := hp _ (List.mem_cons_of_mem _ (List.mem_cons_of_mem _ (List.mem_cons_of_mem _ (List.mem_cons_of_mem _ (List.mem_cons_of_mem _ (List.mem_cons_self ..))))))
  have q1 : lk = lk2 := hp _ (List.mem_cons_of_mem _ (List.mem_cons_of_mem _ (List.mem_cons_of_mem _ (List.mem_cons_of_mem _ (List.mem_cons_of_mem _ (List.mem_cons_of_mem _ (List.mem_cons_self ..)))))))
  have q2 : th + 1 = th2 := hp _ (List.mem_cons_of_mem _ (List.mem_cons_of_mem _ (List.mem_cons_of_mem _ (List.mem_cons_of_mem _ (List.mem_cons_of_mem _ (List.mem_cons_of_mem _ (List.mem_cons_of_mem _ (List.mem_cons_self ..))))))))
  have q3 : (2 : Int) = ln2 := hp _ (List.mem_cons_of_mem _ (List.mem_cons_of_mem _ (List.mem_cons_of_mem _ (List.mem_cons_of_mem _ (List.mem_cons_of_mem _ (List.mem_cons_of_mem _ (List.mem_cons_of_mem _ (List.mem_cons_of_mem _ (List.mem_cons_self ..)))))))))
  have q4 : -1 = wt2 := hp _ (List.mem_cons_of_mem _ (List.mem_cons_of_mem _ (List.mem_cons_of_mem _ (List.mem_cons_of_mem _ (List.mem_cons_of_mem _ (List.mem_cons_of_mem _ (List.mem_cons_of_mem _ (List.mem_cons_of_mem _ (List.mem_cons_of_mem _ (List.mem_cons_self ..))))))))))
  have q5 : en = en2 := hp _ (List.mem_cons_of_mem _ (List.mem_cons_of_mem _ (List.mem_cons_of_mem _ (List.mem_cons_of_mem _ (List.mem_cons_of_mem _ (List.mem_cons_of_mem _ (List.mem_cons_of_mem _ (List.mem_cons_of_mem _ (List.mem_cons_of_mem _ (List.mem_cons_of_mem _ (List.mem_cons_self ..)))))))))))
  clear hp
  have hw1 : IntKind.i64.wrap (th + 1) = th + 1 := i64w (by omega) (by omega)
  have hb2 : (IntKind.i64.wrap (th + 1) == al) = false := by rw [hw1]; exact beq_eq_false_iff_ne.2 hc
  have hw2 : IntKind.i64.wrap (th + 1) = th2 := by rw [hw1]; exact q2
  refine ⟨4000, _, _, _, br1n_1 .., (ob_cons ?_ (ob_cons rfl (ob_cons ?_ (ob_cons ?_ (ob_cons ?_ (ob_cons ?_ (ob_cons rfl (ob_cons rfl (ob_cons rfl (ob_cons rfl (ob_cons ?_ (ob_cons rfl (ob_cons rfl (ob_cons ?_ (ob_cons rfl (ob_cons ?_ (ob_cons ?_ (ob_cons ?_ (ob_cons rfl (ob_cons (Nat.le_refl _) (ob_cons (.inl ⟨rfl, rfl⟩) (ob_cons ?_ (ob_cons ?_ (ob_cons ?_ (ob_cons ?_ ob_nil)))))))))))))))))))))))))⟩
  · exact q3
  · exact q1
  · exact q5
  · exact q4
  · exact hw2
  · exact rfl
  · exact rfl
  · exact rfl
  · exact rfl
  · exact rfl
  · exact hb2
  · exact hb1
  · exact hkl
  · omega
theorem br1o_1 (nb lk th al wt en lk2 th2 ln2 wt2 en2 s2 : Int) (L2 : LS) (k l : Nat) (g : Nat → Nat → AV) : callB EBr 4000 10 [AV.ptr 1 0 0, AV.ptr 2 0 0] (br1oH nb lk th al wt en lk2 th2 ln2 wt2 en2 s2 L2 k l g) (br1oR nb lk th al wt en lk2 th2 ln2 wt2 en2 s2 L2 k l g) [] [Hint.b true, Hint.b true] =
 some ([nb = nb,
 lk = lk2,
 0 = en2,
 -1 = wt2,
 IntKind.i64.wrap (th + 1) = th2,
 al = al,
 (0 : Nat) = 0,
 k = k,
 (none : Option Nat) = none,
 IntKind.i64.wrap (s2 + 1) = (rLoad (mkR k g s2 L2) 8 th 1).st,
 (1 : Int) = 1,
 (8 : Int) = 8,
 th = (rLoad (mkR k g s2 L2) 8 th 1).L.a,
 (1 : Int) = 1,
 dWord (dOf k g) 8 th 1 = (rLoad (mkR k g s2 L2) 8 th 1).L.w,
 dWord (dOf k g) 8 th 1 = (rLoad (mkR k g s2 L2) 8 th 1).L.i,
 false = (rLoad (mkR k g s2 L2) 8 th 1).L.d,
 false = false,
 l ≤ l,
 g = g ∧ plainSh wSh = true ∨ ∀ (i : Nat), i < l → rowOb wSh 0 (g i) (g i),
 (IntKind.i64.wrap (th + 1) == al) = true,
 (dWord (dOf k g) 8 th 1 == 0) = true,
 k ≤ l,
 k ≤ 1000000]) := by kernel_rfl
theorem br1o_loc (nb lk th al wt en lk2 th2 ln2 wt2 en2 s2 : Int) (L2 : LS) (k l : Nat) (g : Nat → Nat → AV) : LocOk Tryd.prog 10 [.ptr 1 0 0, .ptr 2 0 0] (br1oH nb lk th al wt en lk2 th2 ln2 wt2 en2 s2 L2 k l g) (br1oR nb lk th al wt en lk2 th2 ln2 wt2 en2 s2 L2 k l g) := by
  refine loc_of_call EBr_ok (fun hp => ?_)
  have hp1 : 0 ≤ th ∧ th < al ∧ al ≤ 16 ∧ -9223372036854775808 ≤ lk ∧ lk ≤ 1000 := hp _ (List.mem_cons_self ..)
  have hkl : k ≤ l := hp _ (List.mem_cons_of_mem _ (List.mem_cons_self ..))
  have hkm : k ≤ 100000 := hp _ (List.mem_cons_of_mem _ (List.mem_cons_of_mem _ (List.mem_cons_self ..)))
  have hr : 0 ≤ nb ∧ nb < 18446744073709551616 ∧ 0 ≤ dWord (dOf k g) 8 th 2 ∧ dWord (dOf k g) 8 th 2 < 18446744073709551616 := hp _ (List.mem_cons_of_mem _ (List.mem_cons_of_mem _ (List.mem_cons_of_mem _ (List.mem_cons_self ..))))
  have hb1 : (dWord (dOf k g) 8 th 1 == 0) = true := hp _ (List.mem_cons_of_mem _ (List.mem_cons_of_mem _ (List.mem_cons_of_mem _ (List.mem_cons_of_mem _ (List.mem_cons_self ..)))))
  have hc : th + 1 = al := hp _ (List.mem_cons_of_mem _ (List.mem_cons_of_mem _ (List.mem_cons_of_mem _ (List.mem_cons_of_mem _ (List.mem_cons_of_mem _ (List.mem_cons_self ..))))))
  have q1 : lk = lk2 := hp _ (List.mem_cons_of_mem _ (List.mem_cons_of_mem _ (List.mem_cons_of_mem _ (List.mem_cons_of_mem _ (List.mem_cons_of_mem _ (List.mem_cons_of_mem _ (List.mem_cons_self ..)))))))
  have q2 : th + 1 = th2 := hp _ (List.mem_cons_of_mem _ (List.mem_cons_of_mem _ (List.mem_cons_of_mem _ (List.mem_cons_of_mem _ (List.mem_cons_of_mem _ (List.mem_cons_of_mem _ (List.mem_cons_of_mem _ (List.mem_cons_self ..))))))))
  have q4 : -1 = wt2 := hp _ (List.mem_cons_of_mem _ (List.mem_cons_of_mem _ (List.mem_cons_of_mem _ (List.mem_cons_of_mem _ (List.mem_cons_of_mem _ (List.mem_cons_of_mem _ (List.mem_cons_of_mem _ (List.mem_cons_of_mem _ (List.mem_cons_self ..)))))))))
  have q5 : 0 = en2 := hp _ (List.mem_cons_of_mem _ (List.mem_cons_of_mem _ (List.mem_cons_of_mem _ (List.mem_cons_of_mem _ (List.mem_cons_of_mem _ (List.mem_cons_of_mem _ (List.mem_cons_of_mem _ (List.mem_cons_of_mem _ (List.mem_cons_of_mem _ (List.mem_cons_self ..))))))))))
  clear hp
  have hw1 : IntKind.i64.wrap (th + 1) = th + 1 := i64w (by omega) (by omega)
  have hb2 : (IntKind.i64.wrap (th + 1) == al) = true := by rw [hw1]; exact beq_iff_eq.2 hc
  have hw2 : IntKind.i64.wrap (th + 1) = th2 := by rw [hw1]; exact q2
  refine ⟨4000, _, _, _, br1o_1 .., (ob_cons rfl (ob_cons ?_ (ob_cons ?_ (ob_cons ?_ (ob_cons ?_ (ob_cons rfl (ob_cons rfl (ob_cons rfl (ob_cons rfl (ob_cons ?_ (ob_cons rfl (ob_cons rfl (ob_cons ?_ (ob_cons rfl (ob_cons ?_ (ob_cons ?_ (ob_cons ?_ (ob_cons rfl (ob_cons (Nat.le_refl _) (ob_cons (.inl ⟨rfl, rfl⟩) (ob_cons ?_ (ob_cons ?_ (ob_cons ?_ (ob_cons ?_ ob_nil))))))))))))))))))))))))⟩
  · exact q1
  · exact q5
  · exact q4
  · exact hw2
  · exact rfl
  · exact rfl
  · exact rfl
  · exact rfl
  · exact rfl
  · exact hb2
  · exact hb1
  · exact hkl
  · omega
theorem br1f_1 (nb lk th al wt en lk2 th2 ln2 wt2 en2 s2 : Int) (L2 : LS) (k l : Nat) (g : Nat → Nat → AV) : callB EBr 4000 10 [AV.ptr 1 0 0, AV.ptr 2 0 0] (br1fH nb lk th al wt en lk2 th2 ln2 wt2 en2 s2 L2 k l g) (br1fR nb lk th al wt en lk2 th2 ln2 wt2 en2 s2 L2 k l g) [] [Hint.b false] =
 some ([4 = ln2,
 nb = nb,
 lk = lk2,
 en = en2,
 wt = wt2,
 th = th2,
 al = al,
 (0 : Nat) = 0,
 k = k,
 (none : Option Nat) = none,
 IntKind.i64.wrap (s2 + 1) = (rLoad (mkR k g s2 L2) 8 th 1).st,
 (1 : Int) = 1,
 (8 : Int) = 8,
 th = (rLoad (mkR k g s2 L2) 8 th 1).L.a,
 (1 : Int) = 1,
 dWord (dOf k g) 8 th 1 = (rLoad (mkR k g s2 L2) 8 th 1).L.w,
 dWord (dOf k g) 8 th 1 = (rLoad (mkR k g s2 L2) 8 th 1).L.i,
 false = (rLoad (mkR k g s2 L2) 8 th 1).L.d,
 false = false,
 l ≤ l,
 g = g ∧ plainSh wSh = true ∨ ∀ (i : Nat), i < l → rowOb wSh 0 (g i) (g i),
 (dWord (dOf k g) 8 th 1 == 0) = false,
 k ≤ l,
 k ≤ 1000000]) := by kernel_rfl
theorem br1f_loc (nb lk th al wt en lk2 th2 ln2 wt2 en2 s2 : Int) (L2 : LS) (k l : Nat) (g : Nat → Nat → AV) : LocOk Tryd.prog 10 [.ptr 1 0 0, .ptr 2 0 0] (br1fH nb lk th al wt en lk2 th2 ln2 wt2 en2 s2 L2 k l g) (br1fR nb lk th al wt en lk2 th2 ln2 wt2 en2 s2 L2 k l g) := by
  refine loc_of_call EBr_ok (fun hp => ?_)
  have hp1 : 0 ≤ th ∧ th < al ∧ al ≤ 16 ∧ -9223372036854775808 ≤ lk ∧ lk ≤ 1000 := hp _ (List.mem_cons_self ..)
  have hkl : k ≤ l := hp _ (List.mem_cons_of_mem _ (List.mem_cons_self ..))
  have hkm : k ≤ 100000 := hp _ (List.mem_cons_of_mem _ (List.mem_cons_of_mem _ (List.mem_cons_self ..)))
  have hr : 0 ≤ nb ∧ nb < 18446744073709551616 ∧ 0 ≤ dWord (dOf k g) 8 th 2 ∧ dWord (dOf k g) 8 th 2 < 18446744073709551616 := hp _ (List.mem_cons_of_mem _ (List.mem_cons_of_mem _ (List.mem_cons_of_mem _ (List.mem_cons_self ..))))
  have hb1 : (dWord (dOf k g) 8 th 1 == 0) = false := hp _ (List.mem_cons_of_mem _ (List.mem_cons_of_mem _ (List.mem_cons_of_mem _ (List.mem_cons_of_mem _ (List.mem_cons_self ..)))))
  have q1 : lk = lk2 := hp _ (List.mem_cons_of_mem _ (List.mem_cons_of_mem _ (List.mem_cons_of_mem _ (List.mem_cons_of_mem _ (List.mem_cons_of_mem _ (List.mem_cons_self ..))))))
  have q2 : th = th2 := hp _ (List.mem_cons_of_mem _ (List.mem_cons_of_mem _ (List.mem_cons_of_mem _ (List.mem_cons_of_mem _ (List.mem_cons_of_mem _ (List.mem_cons_of_mem _ (List.mem_cons_self ..)))))))
  have q3 : (4 : Int) = ln2 := hp _ (List.mem_cons_of_mem _ (List.mem_cons_of_mem _ (List.mem_cons_of_mem _ (List.mem_cons_of_mem _ (List.mem_cons_of_mem _ (List.mem_cons_of_mem _ (List.mem_cons_of_mem _ (List.mem_cons_self ..))))))))
  have q4 : wt = wt2 := hp _ (List.mem_cons_of_mem _ (List.mem_cons_of_mem _ (List.mem_cons_of_mem _ (List.mem_cons_of_mem _ (List.mem_cons_of_mem _ (List.mem_cons_of_mem _ (List.mem_cons_of_mem _ (List.mem_cons_of_mem _ (List.mem_cons_self ..)))))))))
  have q5 : en = en2 := hp _ (List.mem_cons_of_mem _ (List.mem_cons_of_mem _ (List.mem_cons_of_mem _ (List.mem_cons_of_mem _ (List.mem_cons_of_mem _ (List.mem_cons_of_mem _ (List.mem_cons_of_mem _ (List.mem_cons_of_mem _ (List.mem_cons_of_mem _ (List.mem_cons_self ..))))))))))
  clear hp
  refine ⟨4000, _, _, _, br1f_1 .., (ob_cons ?_ (ob_cons rfl (ob_cons ?_ (ob_cons ?_ (ob_cons ?_ (ob_cons ?_ (ob_cons rfl (ob_cons rfl (ob_cons rfl (ob_cons rfl (ob_cons ?_ (ob_cons rfl (ob_cons rfl (ob_cons ?_ (ob_cons rfl (ob_cons ?_ (ob_cons ?_ (ob_cons ?_ (ob_cons rfl (ob_cons (Nat.le_refl _) (ob_cons (.inl ⟨rfl, rfl⟩) (ob_cons ?_ (ob_cons ?_ (ob_cons ?_ ob_nil))))))))))))))))))))))))⟩
  · exact q3
  · exact q1
  · exact q5
  · exact q4
  · exact q2
  · exact rfl
  · exact rfl
  · exact rfl
  · exact rfl
  · exact rfl
  · exact hb1
  · exact hkl
  · omega
theorem br2n_1 (nb lk th al wt en lk2 th2 ln2 wt2 en2 s2 : Int) (L2 : LS) (k l : Nat) (g : Nat → Nat → AV) : callB EBr 4000 10 [AV.ptr 1 0 0, AV.ptr 2 0 0] (br2nH nb lk th al wt en lk2 th2 ln2 wt2 en2 s2 L2 k l g) (br2nR nb lk th al wt en lk2 th2 ln2 wt2 en2 s2 L2 k l g) [] [Hint.b true, Hint.b false] =
 some ([2 = ln2,
 nb = nb,
 lk = lk2,
 en = en2,
 -1 = wt2,
 IntKind.i64.wrap (th + 1) = th2,
 al = al,
 (0 : Nat) = 0,
 k = k,
 (none : Option Nat) = none,
 IntKind.i64.wrap (s2 + 1) = (rLoad (mkR k g s2 L2) 8 th 2).st,
 (1 : Int) = 1,
 (8 : Int) = 8,
 th = (rLoad (mkR k g s2 L2) 8 th 2).L.a,
 (2 : Int) = 2,
 dWord (dOf k g) 8 th 2 = (rLoad (mkR k g s2 L2) 8 th 2).L.w,
 dWord (dOf k g) 8 th 2 = (rLoad (mkR k g s2 L2) 8 th 2).L.i,
 false = (rLoad (mkR k g s2 L2) 8 th 2).L.d,
 false = false,
 l ≤ l,
 g = g ∧ plainSh wSh = true ∨ ∀ (i : Nat), i < l → rowOb wSh 0 (g i) (g i),
 (IntKind.i64.wrap (th + 1) == al) = false,
 bpReach nb (dWord (dOf k g) 8 th 2) = true,
 0 ≤ nb,
 nb < 18446744073709551616,
 0 ≤ dWord (dOf k g) 8 th 2,
 dWord (dOf k g) 8 th 2 < 18446744073709551616,
 k ≤ l,
 k ≤ 1000000]) := by kernel_rfl
theorem br2n_loc (nb lk th al wt en lk2 th2 ln2 wt2 en2 s2 : Int) (L2 : LS) (k l : Nat) (g : Nat → Nat → AV) : LocOk Tryd.prog 10 [.ptr 1 0 0, .ptr 2 0 0] (br2nH nb lk th al wt en lk2 th2 ln2 wt2 en2 s2 L2 k l g) (br2nR nb lk th al wt en lk2 th2 ln2 wt2 en2 s2 L2 k l g) := by
  refine loc_of_call EBr_ok (fun hp => ?_)
  have hp1 : 0 ≤ th ∧ th < al ∧ al ≤ 16 ∧ -9223372036854775808 ≤ lk ∧ lk ≤ 1000 := hp _ (List.mem_cons_self ..)
  have hkl : k ≤ l := hp _ (List.mem_cons_of_mem _ (List.mem_cons_self ..))
  have hkm : k ≤ 100000 := hp _ (List.mem_cons_of_mem _ (List.mem_cons_of_mem _ (List.mem_cons_self ..)))
  have hr : 0 ≤ nb ∧ nb < 18446744073709551616 ∧ 0 ≤ dWord (dOf k g) 8 th 2 ∧ dWord (dOf k g) 8 th 2 < 18446744073709551616 := hp _ (List.mem_cons_of_mem _ (List.mem_cons_of_mem _ (List.mem_cons_of_mem _ (List.mem_cons_self ..))))
  have hb1 : bpReach nb (dWord (dOf k g) 8 th 2) = true := hp _ (List.mem_cons_of_mem _ (List.mem_cons_of_mem _ (List.mem_cons_of_mem _ (List.mem_cons_of_mem _ (List.mem_cons_self ..)))))
  have hc : th + 1 ≠ al := hp _ (List.mem_cons_of_mem _ (List.mem_cons_of_mem _ (List.mem_cons_of_mem _ (List.mem_cons_of_mem _ (List.mem_cons_of_mem _ (List.mem_cons_self ..))))))
  have q1 : lk = lk2 := hp _ (List.mem_cons_of_mem _ (List.mem_cons_of_mem _ (List.mem_cons_of_mem _ (List.mem_cons_of_mem _ (List.mem_cons_of_mem _ (List.mem_cons_of_mem _ (List.mem_cons_self ..)))))))
  have q2 : th + 1 = th2 := hp _ (List.mem_cons_of_mem _ (List.mem_cons_of_mem _ (List.mem_cons_of_mem _ (List.mem_cons_of_mem _ (List.mem_cons_of_mem _ (List.mem_cons_of_mem _ (List.mem_cons_of_mem _ (List.mem_cons_self ..))))))))
  have q3 : (2 : Int) = ln2 := hp _ (List.mem_cons_of_mem _ (List.mem_cons_of_mem _ (List.mem_cons_of_mem _ (List.mem_cons_of_mem _ (List.mem_cons_of_mem _ (List.mem_cons_of_mem _ (List.mem_cons_of_mem _ (List.mem_cons_of_mem _ (List.mem_cons_self ..)))))))))
  have q4 : -1 = wt2 := hp _ (List.mem_cons_of_mem _ (List.mem_cons_of_mem _ (List.mem_cons_of_mem _ (List.mem_cons_of_mem _ (List.mem_cons_of_mem _ (List.mem_cons_of_mem _ (List.mem_cons_of_mem _ (List.mem_cons_of_mem _ (List.mem_cons_of_mem _ (List.mem_cons_self ..))))))))))
  have q5 : en = en2 := hp _ (List.mem_cons_of_mem _ (List.mem_cons_of_mem _ (List.mem_cons_of_mem _ (List.mem_cons_of_mem _ (List.mem_cons_of_mem _ (List.mem_cons_of_mem _ (List.mem_cons_of_mem _ (List.mem_cons_of_mem _ (List.mem_cons_of_mem _ (List.mem_cons_of_mem _ (List.mem_cons_self ..)))))))))))
  clear hp
  have hw1 : IntKind.i64.wrap (th + 1) = th + 1 := i64w (by omega) (by omega)
  have hb2 : (IntKind.i64.wrap (th + 1) == al) = false := by rw [hw1]; exact beq_eq_false_iff_ne.2 hc
  have hw2 : IntKind.i64.wrap (th + 1) = th2 := by rw [hw1]; exact q2
  refine ⟨4000, _, _, _, br2n_1 .., (ob_cons ?_ (ob_cons rfl (ob_cons ?_ (ob_cons ?_ (ob_cons ?_ (ob_cons ?_ (ob_cons rfl (ob_cons rfl (ob_cons rfl (ob_cons rfl (ob_cons ?_ (ob_cons rfl (ob_cons rfl (ob_cons ?_ (ob_cons rfl (ob_cons ?_ (ob_cons ?_ (ob_cons ?_ (ob_cons rfl (ob_cons (Nat.le_refl _) (ob_cons (.inl ⟨rfl, rfl⟩) (ob_cons ?_ (ob_cons ?_ (ob_cons ?_ (ob_cons ?_ (ob_cons ?_ (ob_cons ?_ (ob_cons ?_ (ob_cons ?_ ob_nil)))))))))))))))))))))))))))))⟩
  · exact q3
  · exact q1
  · exact q5
  · exact q4
  · exact hw2
  · exact rfl
  · exact rfl
  · exact rfl
  · exact rfl
  · exact rfl
  · exact hb2
  · exact hb1
  · exact hr.1
  · exact hr.2.1
  · exact hr.2.2.1
  · exact hr.2.2.2
  · exact hkl
  · omega
theorem br2o_1 (nb lk th al wt en lk2 th2 ln2 wt2 en2 s2 : Int) (L2 : LS) (k l : Nat) (g : Nat → Nat → AV) : callB EBr 4000 10 [AV.ptr 1 0 0, AV.ptr 2 0 0] (br2oH nb lk th al wt en lk2 th2 ln2 wt2 en2 s2 L2 k l g) (br2oR nb lk th al wt en lk2 th2 ln2 wt2 en2 s2 L2 k l g) [] [Hint.b true, Hint.b true] =
 some ([nb = nb,
 lk = lk2,
 0 = en2,
 -1 = wt2,
 IntKind.i64.wrap (th + 1) = th2,
 al = al,
 (0 : Nat) = 0,
 k = k,
 (none : Option Nat) = none,
 IntKind.i64.wrap (s2 + 1) = (rLoad (mkR k g s2 L2) 8 th 2).st,
 (1 : Int) = 1,
 (8 : Int) = 8,
 th = (rLoad (mkR k g s2 L2) 8 th 2).L.a,
 (2 : Int) = 2,
 dWord (dOf k g) 8 th 2 = (rLoad (mkR k g s2 L2) 8 th 2).L.w,
 dWord (dOf k g) 8 th 2 = (rLoad (mkR k g s2 L2) 8 th 2).L.i,
 false = (rLoad (mkR k g s2 L2) 8 th 2).L.d,
 false = false,
 l ≤ l,
 g = g ∧ plainSh wSh = true ∨ ∀ (i : Nat), i < l → rowOb wSh 0 (g i) (g i),
 (IntKind.i64.wrap (th + 1) == al) = true,
 bpReach nb (dWord (dOf k g) 8 th 2) = true,
 0 ≤ nb,
 nb < 18446744073709551616,
 0 ≤ dWord (dOf k g) 8 th 2,
 dWord (dOf k g) 8 th 2 < 18446744073709551616,
 k ≤ l,
 k ≤ 1000000]) := by kernel_rfl
theorem br2o_loc (nb lk th al wt en lk2 th2 ln2 wt2 en2 s2 : Int) (L2 : LS) (k l : Nat) (g : Nat → Nat → AV) : LocOk Tryd.prog 10 [.ptr 1 0 0, .ptr 2 0 0] (br2oH nb lk th al wt en lk2 th2 ln2 wt2 en2 s2 L2 k l g) (br2oR nb lk th al wt en lk2 th2 ln2 wt2 en2 s2 L2 k l g) := by
  refine loc_of_call EBr_ok (fun hp => ?_)
  have hp1 : 0 ≤ th ∧ th < al ∧ al ≤ 16 ∧ -9223372036854775808 ≤ lk ∧ lk ≤ 1000 := hp _ (List.mem_cons_self ..)
  have hkl : k ≤ l := hp _ (List.mem_cons_of_mem _ (List.mem_cons_self ..))
  have hkm : k ≤ 100000 := hp _ (List.mem_cons_of_mem _ (List.mem_cons_of_mem _ (List.mem_cons_self ..)))
  have hr : 0 ≤ nb ∧ nb < 18446744073709551616 ∧ 0 ≤ dWord (dOf k g) 8 th 2 ∧ dWord (dOf k g) 8 th 2 < 18446744073709551616 := hp _ (List.mem_cons_of_mem _ (List.mem_cons_of_mem _ (List.mem_cons_of_mem _ (List.mem_cons_self ..))))
  have hb1 : bpReach nb (dWord (dOf k g) 8 th 2) = true := hp _ (List.mem_cons_of_mem _ (List.mem_cons_of_mem _ (List.mem_cons_of_mem _ (List.mem_cons_of_mem _ (List.mem_cons_self ..)))))
  have hc : th + 1 = al := hp _ (List.mem_cons_of_mem _ (List.mem_cons_of_mem _ (List.mem_cons_of_mem _ (List.mem_cons_of_mem _ (List.mem_cons_of_mem _ (List.mem_cons_self ..))))))
  have q1 : lk = lk2 := hp _ (List.mem_cons_of_mem _ (List.mem_cons_of_mem _ (List.mem_cons_of_mem _ (List.mem_cons_of_mem _ (List.mem_cons_of_mem _ (List.mem_cons_of_mem _ (List.mem_cons_self ..)))))))
  have q2 : th + 1 = th2 := hp _ (List.mem_cons_of_mem _ (List.mem_cons_of_mem _ (List.mem_cons_of_mem _ (List.mem_cons_of_mem _ (List.mem_cons_of_mem _ (List.mem_cons_of_mem _ (List.mem_cons_of_mem _ (List.mem_cons_self ..))))))))
  have q4 : -1 = wt2 := hp _ (List.mem_cons_of_mem _ (List.mem_cons_of_mem _ (List.mem_cons_of_mem _ (List.mem_cons_of_mem _ (List.mem_cons_of_mem _ (List.mem_cons_of_mem _ (List.mem_cons_of_mem _ (List.mem_cons_of_mem _ (List.mem_cons_self ..)))))))))
  have q5 : 0 = en2 := hp _ (List.mem_cons_of_mem _ (List.mem_cons_of_mem _ (List.mem_cons_of_mem _ (List.mem_cons_of_mem _ (List.mem_cons_of_mem _ (List.mem_cons_of_mem _ (List.mem_cons_of_mem _ (List.mem_cons_of_mem _ (List.mem_cons_of_mem _ (List.mem_cons_self ..))))))))))
  clear hp
  have hw1 : IntKind.i64.wrap (th + 1) = th + 1 := i64w (by omega) (by omega)
  have hb2 : (IntKind.i64.wrap (th + 1) == al) = true := by rw [hw1]; exact beq_iff_eq.2 hc
  have hw2 : IntKind.i64.wrap (th + 1) = th2 := by rw [hw1]; exact q2
  refine ⟨4000, _, _, _, br2o_1 .., (ob_cons rfl (ob_cons ?_ (ob_cons ?_ (ob_cons ?_ (ob_cons ?_ (ob_cons rfl (ob_cons rfl (ob_cons rfl (ob_cons rfl (ob_cons ?_ (ob_cons rfl (ob_cons rfl (ob_cons ?_ (ob_cons rfl (ob_cons ?_ (ob_cons ?_ (ob_cons ?_ (ob_cons rfl (ob_cons (Nat.le_refl _) (ob_cons (.inl ⟨rfl, rfl⟩) (ob_cons ?_ (ob_cons ?_ (ob_cons ?_ (ob_cons ?_ (ob_cons ?_ (ob_cons ?_ (ob_cons ?_ (ob_cons ?_ ob_nil))))))))))))))))))))))))))))⟩
  · exact q1
  · exact q5
  · exact q4
  · exact hw2
  · exact rfl
  · exact rfl
  · exact rfl
  · exact rfl
  · exact rfl
  · exact hb2
  · exact hb1
  · exact hr.1
  · exact hr.2.1
  · exact hr.2.2.1
  · exact hr.2.2.2
  · exact hkl
  · omega
theorem br2f_1 (nb lk th al wt en lk2 th2 ln2 wt2 en2 s2 : Int) (L2 : LS) (k l : Nat) (g : Nat → Nat → AV) : callB EBr 4000 10 [AV.ptr 1 0 0, AV.ptr 2 0 0] (br2fH nb lk th al wt en lk2 th2 ln2 wt2 en2 s2 L2 k l g) (br2fR nb lk th al wt en lk2 th2 ln2 wt2 en2 s2 L2 k l g) [] [Hint.b false] =
 some ([5 = ln2,
 nb = nb,
 lk = lk2,
 en = en2,
 wt = wt2,
 th = th2,
 al = al,
 (0 : Nat) = 0,
 k = k,
 (none : Option Nat) = none,
 IntKind.i64.wrap (s2 + 1) = (rLoad (mkR k g s2 L2) 8 th 2).st,
 (1 : Int) = 1,
 (8 : Int) = 8,
 th = (rLoad (mkR k g s2 L2) 8 th 2).L.a,
 (2 : Int) = 2,
 dWord (dOf k g) 8 th 2 = (rLoad (mkR k g s2 L2) 8 th 2).L.w,
 dWord (dOf k g) 8 th 2 = (rLoad (mkR k g s2 L2) 8 th 2).L.i,
 false = (rLoad (mkR k g s2 L2) 8 th 2).L.d,
 false = false,
 l ≤ l,
 g = g ∧ plainSh wSh = true ∨ ∀ (i : Nat), i < l → rowOb wSh 0 (g i) (g i),
 bpReach nb (dWord (dOf k g) 8 th 2) = false,
 0 ≤ nb,
 nb < 18446744073709551616,
 0 ≤ dWord (dOf k g) 8 th 2,
 dWord (dOf k g) 8 th 2 < 18446744073709551616,
 k ≤ l,
 k ≤ 1000000]) := by kernel_rfl
theorem br2f_loc (nb lk th al wt en lk2 th2 ln2 wt2 en2 s2 : Int) (L2 : LS) (k l : Nat) (g : Nat → Nat → AV) : LocOk Tryd.prog 10 [.ptr 1 0 0, .ptr 2 0 0] (br2fH nb lk th al wt en lk2 th2 ln2 wt2 en2 s2 L2 k l g) (br2fR nb lk th al wt en lk2 th2 ln2 wt2 en2 s2 L2 k l g) := by
  refine loc_of_call EBr_ok (fun hp => ?_)
  have hp1 : 0 ≤ th ∧ th < al ∧ al ≤ 16 ∧ -9223372036854775808 ≤ lk ∧ lk ≤ 1000 := hp _ (List.mem_cons_self ..)
  have hkl : k ≤ l := hp _ (List.mem_cons_of_mem _ (List.mem_cons_self ..))
  have hkm : k ≤ 100000 := hp _ (List.mem_cons_of_mem _ (List.mem_cons_of_mem _ (List.mem_cons_self ..)))
  have hr : 0 ≤ nb ∧ nb < 18446744073709551616 ∧ 0 ≤ dWord (dOf k g) 8 th 2 ∧ dWord (dOf k g) 8 th 2 < 18446744073709551616 := hp _ (List.mem_cons_of_mem _ (List.mem_cons_of_mem _ (List.mem_cons_of_mem _ (List.mem_cons_self ..))))
  have hb1 : bpReach nb (dWord (dOf k g) 8 th 2) = false := hp _ (List.mem_cons_of_mem _ (List.mem_cons_of_mem _ (List.mem_cons_of_mem _ (List.mem_cons_of_mem _ (List.mem_cons_self ..)))))
  have q1 : lk = lk2 := hp _ (List.mem_cons_of_mem _ (List.mem_cons_of_mem _ (List.mem_cons_of_mem _ (List.mem_cons_of_mem _ (List.mem_cons_of_mem _ (List.mem_cons_self ..))))))
  have q2 : th = th2 := hp _ (List.mem_cons_of_mem _ (List.mem_cons_of_mem _ (List.mem_cons_of_mem _ (List.mem_cons_of_mem _ (List.mem_cons_of_mem _ (List.mem_cons_of_mem _ (List.mem_cons_self ..)))))))
  have q3 : (5 : Int) = ln2 := hp _ (List.mem_cons_of_mem _ (List.mem_cons_of_mem _ (List.mem_cons_of_mem _ (List.mem_cons_of_mem _ (List.mem_cons_of_mem _ (List.mem_cons_of_mem _ (List.mem_cons_of_mem _ (List.mem_cons_self ..))))))))
  have q4 : wt = wt2 := hp _ (List.mem_cons_of_mem _ (List.mem_cons_of_mem _ (List.mem_cons_of_mem _ (List.mem_cons_of_mem _ (List.mem_cons_of_mem _ (List.mem_cons_of_mem _ (List.mem_cons_of_mem _ (List.mem_cons_of_mem _ (List.mem_cons_self ..)))))))))
  have q5 : en = en2 := hp _ (List.mem_cons_of_mem _ (List.mem_cons_of_mem _ (List.mem_cons_of_mem _ (List.mem_cons_of_mem _ (List.mem_cons_of_mem _ (List.mem_cons_of_mem _ (List.mem_cons_of_mem _ (List.mem_cons_of_mem _ (List.mem_cons_of_mem _ (List.mem_cons_self ..))))))))))
  clear hp
  refine ⟨4000, _, _, _, br2f_1 .., (ob_cons ?_ (ob_cons rfl (ob_cons ?_ (ob_cons ?_ (ob_cons ?_ (ob_cons ?_ (ob_cons rfl (ob_cons rfl (ob_cons rfl (ob_cons rfl (ob_cons ?_ (ob_cons rfl (ob_cons rfl (ob_cons ?_ (ob_cons rfl (ob_cons ?_ (ob_cons ?_ (ob_cons ?_ (ob_cons rfl (ob_cons (Nat.le_refl _) (ob_cons (.inl ⟨rfl, rfl⟩) (ob_cons ?_ (ob_cons ?_ (ob_cons ?_ (ob_cons ?_ (ob_cons ?_ (ob_cons ?_ (ob_cons ?_ ob_nil))))))))))))))))))))))))))))⟩
  · exact q3
  · exact q1
  · exact q5
  · exact q4
  · exact q2
  · exact rfl
  · exact rfl
  · exact rfl
  · exact rfl
  · exact rfl
  · exact hb1
  · exact hr.1
  · exact hr.2.1
  · exact hr.2.2.1
  · exact hr.2.2.2
  · exact hkl
  · omega
theorem br3n_1 (nb lk th al wt en lk2 th2 ln2 wt2 en2 s2 : Int) (L2 : LS) (k l : Nat) (g : Nat → Nat → AV) : callB EBr 4000 10 [AV.ptr 1 0 0, AV.ptr 2 0 0] (br3nH nb lk th al wt en lk2 th2 ln2 wt2 en2 s2 L2 k l g) (br3nR nb lk th al wt en lk2 th2 ln2 wt2 en2 s2 L2 k l g) [] [Hint.b true, Hint.b false] =
 some ([2 = ln2,
 nb = nb,
 lk = lk2,
 en = en2,
 -1 = wt2,
 IntKind.i64.wrap (th + 1) = th2,
 al = al,
 (0 : Nat) = 0,
 k = k,
 (none : Option Nat) = none,
 IntKind.i64.wrap (s2 + 1) = (rLoad (mkR k g s2 L2) 8 th 6).st,
 (1 : Int) = 1,
 (8 : Int) = 8,
 th = (rLoad (mkR k g s2 L2) 8 th 6).L.a,
 (6 : Int) = 6,
 dWord (dOf k g) 8 th 6 = (rLoad (mkR k g s2 L2) 8 th 6).L.w,
 dWord (dOf k g) 8 th 6 = (rLoad (mkR k g s2 L2) 8 th 6).L.i,
 false = (rLoad (mkR k g s2 L2) 8 th 6).L.d,
 false = false,
 l ≤ l,
 g = g ∧ plainSh wSh = true ∨ ∀ (i : Nat), i < l → rowOb wSh 0 (g i) (g i),
 (IntKind.i64.wrap (th + 1) == al) = false,
 decide (dWord (dOf k g) 8 th 6 > 0) = true,
 k ≤ l,
 k ≤ 1000000]) := by kernel_rfl
theorem br3n_loc (nb lk th al wt en lk2 th2 ln2 wt2 en2 s2 : Int) (L2 : LS) (k l : Nat) (g : Nat → Nat → AV) : LocOk Tryd.prog 10 [.ptr 1 0 0, .ptr 2 0 0] (br3nH nb lk th al wt en lk2 th2 ln2 wt2 en2 s2 L2 k l g) (br3nR nb lk th al wt en lk2 th2 ln2 wt2 en2 s2 L2 k l g) := by
  refine loc_of_call EBr_ok (fun hp => ?_)
  have hp1 : 0 ≤ th ∧ th < al ∧ al ≤ 16 ∧ -9223372036854775808 ≤ lk ∧ lk ≤ 1000 := hp _ (List.mem_cons_self ..)
  have hkl : k ≤ l := hp _ (List.mem_cons_of_mem _ (List.mem_cons_self ..))
  have hkm : k ≤ 100000 := hp _ (List.mem_cons_of_mem _ (List.mem_cons_of_mem _ (List.mem_cons_self ..)))
  have hr : 0 ≤ nb ∧ nb < 18446744073709551616 ∧ 0 ≤ dWord (dOf k g) 8 th 2 ∧ dWord (dOf k g) 8 th 2 < 18446744073709551616 := hp _ (List.mem_cons_of_mem _ (List.mem_cons_of_mem _ (List.mem_cons_of_mem _ (List.mem_cons_self ..))))
  have hb1 : decide (dWord (dOf k g) 8 th 6 > 0) = true := hp _ (List.mem_cons_of_mem _ (List.mem_cons_of_mem _ (List.mem_cons_of_mem _ (List.mem_cons_of_mem _ (List.mem_cons_self ..)))))
  have hc : th + 1 ≠ al := hp _ (List.mem_cons_of_mem _ (List.mem_cons_of_mem _ (List.mem_cons_of_mem _ (List.mem_cons_of_mem _ (List.mem_cons_of_mem _ (List.mem_cons_self ..))))))
  have q1 : lk = lk2 := hp _ (List.mem_cons_of_mem _ (List.mem_cons_of_mem _ (List.mem_cons_of_mem _ (List.mem_cons_of_mem _ (List.mem_cons_of_mem _ (List.mem_cons_of_mem _ (List.mem_cons_self ..)))))))
  have q2 : th + 1 = th2 := hp _ (List.mem_cons_of_mem _ (List.mem_cons_of_mem _ (List.mem_cons_of_mem _ (List.mem_cons_of_mem _ (List.mem_cons_of_mem _ (List.mem_cons_of_mem _ (List.mem_cons_of_mem _ (List.mem_cons_self ..))))))))
  have q3 : (2 : Int) = ln2 := hp _ (List.mem_cons_of_mem _ (List.mem_cons_of_mem _ (List.mem_cons_of_mem _ (List.mem_cons_of_mem _ (List.mem_cons_of_mem _ (List.mem_cons_of_mem _ (List.mem_cons_of_mem _ (List.mem_cons_of_mem _ (List.mem_cons_self ..)))))))))
  have q4 : -1 = wt2 := hp _ (List.mem_cons_of_mem _ (List.mem_cons_of_mem _ (List.mem_cons_of_mem _ (List.mem_cons_of_mem _ (List.mem_cons_of_mem _ (List.mem_cons_of_mem _ (List.mem_cons_of_mem _ (List.mem_cons_of_mem _ (List.mem_cons_of_mem _ (List.mem_cons_self ..))))))))))
  have q5 : en = en2 := hp _ (List.mem_cons_of_mem _ (List.mem_cons_of_mem _ (List.mem_cons_of_mem _ (List.mem_cons_of_mem _ (List.mem_cons_of_mem _ (List.mem_cons_of_mem _ (List.mem_cons_of_mem _ (List.mem_cons_of_mem _ (List.mem_cons_of_mem _ (List.mem_cons_of_mem _ (List.mem_cons_self ..)))))))))))
  clear hp
  have hw1 : IntKind.i64.wrap (th + 1) = th + 1 := i64w (by omega) (by omega)
  have hb2 : (IntKind.i64.wrap (th + 1) == al) = false := by rw [hw1]; exact beq_eq_false_iff_ne.2 hc
  have hw2 : IntKind.i64.wrap (th + 1) = th2 := by rw [hw1]; exact q2
  refine ⟨4000, _, _, _, br3n_1 .., (ob_cons ?_ (ob_cons rfl (ob_cons ?_ (ob_cons ?_ (ob_cons ?_ (ob_cons ?_ (ob_cons rfl (ob_cons rfl (ob_cons rfl (ob_cons rfl (ob_cons ?_ (ob_cons rfl (ob_cons rfl (ob_cons ?_ (ob_cons rfl (ob_cons ?_ (ob_cons ?_ (ob_cons ?_ (ob_cons rfl (ob_cons (Nat.le_refl _) (ob_cons (.inl ⟨rfl, rfl⟩) (ob_cons ?_ (ob_cons ?_ (ob_cons ?_ (ob_cons ?_ ob_nil)))))))))))))))))))))))))⟩
  · exact q3
  · exact q1
  · exact q5
  · exact q4
  · exact hw2
  · exact rfl
  · exact rfl
  · exact rfl
  · exact rfl
  · exact rfl
  · exact hb2
  · exact hb1
  · exact hkl
  · omega
theorem br3o_1 (nb lk th al wt en lk2 th2 ln2 wt2 en2 s2 : Int) (L2 : LS) (k l : Nat) (g : Nat → Nat → AV) : callB EBr 4000 10 [AV.ptr 1 0 0, AV.ptr 2 0 0] (br3oH nb lk th al wt en lk2 th2 ln2 wt2 en2 s2 L2 k l g) (br3oR nb lk th al wt en lk2 th2 ln2 wt2 en2 s2 L2 k l g) [] [Hint.b true, Hint.b true] =
 some ([nb = nb,
 lk = lk2,
 0 = en2,
 -1 = wt2,
 IntKind.i64.wrap (th + 1) = th2,
 al = al,
 (0 : Nat) = 0,
 k = k,
 (none : Option Nat) = none,
 IntKind.i64.wrap (s2 + 1) = (rLoad (mkR k g s2 L2) 8 th 6).st,
 (1 : Int) = 1,
 (8 : Int) = 8,
 th = (rLoad (mkR k g s2 L2) 8 th 6).L.a,
 (6 : Int) = 6,
 dWord (dOf k g) 8 th 6 = (rLoad (mkR k g s2 L2) 8 th 6).L.w,
 dWord (dOf k g) 8 th 6 = (rLoad (mkR k g s2 L2) 8 th 6).L.i,
 false = (rLoad (mkR k g s2 L2) 8 th 6).L.d,
 false = false,
 l ≤ l,
 g = g ∧ plainSh wSh = true ∨ ∀ (i : Nat), i < l → rowOb wSh 0 (g i) (g i),
 (IntKind.i64.wrap (th + 1) == al) = true,
 decide (dWord (dOf k g) 8 th 6 > 0) = true,
 k ≤ l,
 k ≤ 1000000]) := by kernel_rfl
theorem br3o_loc (nb lk th al wt en lk2 th2 ln2 wt2 en2 s2 : Int) (L2 : LS) (k l : Nat) (g : Nat → Nat → AV) : LocOk Tryd.prog 10 [.ptr 1 0 0, .ptr 2 0 0] (br3oH nb lk th al wt en lk2 th2 ln2 wt2 en2 s2 L2 k l g) (br3oR nb lk th al wt en lk2 th2 ln2 wt2 en2 s2 L2 k l g) := by
  refine loc_of_call EBr_ok (fun hp => ?_)
  have hp1 : 0 ≤ th ∧ th < al ∧ al ≤ 16 ∧ -9223372036854775808 ≤ lk ∧ lk ≤ 1000 := hp _ (List.mem_cons_self ..)
  have hkl : k ≤ l := hp _ (List.mem_cons_of_mem _ (List.mem_cons_self ..))
  have hkm : k ≤ 100000 := hp _ (List.mem_cons_of_mem _ (List.mem_cons_of_mem _ (List.mem_cons_self ..)))
  have hr : 0 ≤ nb ∧ nb < 18446744073709551616 ∧ 0 ≤ dWord (dOf k g) 8 th 2 ∧ dWord (dOf k g) 8 th 2 < 18446744073709551616 := hp _ (List.mem_cons_of_mem _ (List.mem_cons_of_mem _ (List.mem_cons_of_mem _ (List.mem_cons_self ..))))
  have hb1 : decide (dWord (dOf k g) 8 th 6 > 0) = true := hp _ (List.mem_cons_of_mem _ (List.mem_cons_of_mem _ (List.mem_cons_of_mem _ (List.mem_cons_of_mem _ (List.mem_cons_self ..)))))
  have hc : th + 1 = al := hp _ (List.mem_cons_of_mem _ (List.mem_cons_of_mem _ (List.mem_cons_of_mem _ (List.mem_cons_of_mem _ (List.mem_cons_of_mem _ (List.mem_cons_self ..))))))
  have q1 : lk = lk2 := hp _ (List.mem_cons_of_mem _ (List.mem_cons_of_mem _ (List.mem_cons_of_mem _ (List.mem_cons_of_mem _ (List.mem_cons_of_mem _ (List.mem_cons_of_mem _ (List.mem_cons_self ..)))))))
  have q2 : th + 1 = th2 := hp _ (List.mem_cons_of_mem _ (List.mem_cons_of_mem _ (List.mem_cons_of_mem _ (List.mem_cons_of_mem _ (List.mem_cons_of_mem _ (List.mem_cons_of_mem _ (List.mem_cons_of_mem _ (List.mem_cons_self ..))))))))
  have q4 : -1 = wt2 := hp _ (List.mem_cons_of_mem _ (List.mem_cons_of_mem _ (List.mem_cons_of_mem _ (List.mem_cons_of_mem _ (List.mem_cons_of_mem _ (List.mem_cons_of_mem _ (List.mem_cons_of_mem _ (List.mem_cons_of_mem _ (List.mem_cons_self ..)))))))))
  have q5 : 0 = en2 := hp _ (List.mem_cons_of_mem _ (List.mem_cons_of_mem _ (List.mem_cons_of_mem _ (List.mem_cons_of_mem _ (List.mem_cons_of_mem _ (List.mem_cons_of_mem _ (List.mem_cons_of_mem _ (List.mem_cons_of_mem _ (List.mem_cons_of_mem _ (List.mem_cons_self ..))))))))))
  clear hp
  have hw1 : IntKind.i64.wrap (th + 1) = th + 1 := i64w (by omega) (by omega)
  have hb2 : (IntKind.i64.wrap (th + 1) == al) = true := by rw [hw1]; exact beq_iff_eq.2 hc
  have hw2 : IntKind.i64.wrap (th + 1) = th2 := by rw [hw1]; exact q2
  refine ⟨4000, _, _, _, br3o_1 .., (ob_cons rfl (ob_cons ?_ (ob_cons ?_ (ob_cons ?_ (ob_cons ?_ (ob_cons rfl (ob_cons rfl (ob_cons rfl (ob_cons rfl (ob_cons ?_ (ob_cons rfl (ob_cons rfl (ob_cons ?_ (ob_cons rfl (ob_cons ?_ (ob_cons ?_ (ob_cons ?_ (ob_cons rfl (ob_cons (Nat.le_refl _) (ob_cons (.inl ⟨rfl, rfl⟩) (ob_cons ?_ (ob_cons ?_ (ob_cons ?_ (ob_cons ?_ ob_nil))))))))))))))))))))))))⟩
  · exact q1
  · exact q5
  · exact q4
  · exact hw2
  · exact rfl
  · exact rfl
  · exact rfl
  · exact rfl
  · exact rfl
  · exact hb2
  · exact hb1
  · exact hkl
  · omega
theorem br3f_1 (nb lk th al wt en lk2 th2 ln2 wt2 en2 s2 : Int) (L2 : LS) (k l : Nat) (g : Nat → Nat → AV) : callB EBr 4000 10 [AV.ptr 1 0 0, AV.ptr 2 0 0] (br3fH nb lk th al wt en lk2 th2 ln2 wt2 en2 s2 L2 k l g) (br3fR nb lk th al wt en lk2 th2 ln2 wt2 en2 s2 L2 k l g) [] [Hint.b false, Hint.b false] =
 some ([2 = ln2,
 nb = nb,
 IntKind.i64.wrap (lk - 1) = lk2,
 en = en2,
 th = wt2,
 th = th2,
 al = al,
 (0 : Nat) = 0,
 k = k,
 (none : Option Nat) = none,
 IntKind.i64.wrap (s2 + 1) = (rLoad (mkR k g s2 L2) 8 th 6).st,
 (1 : Int) = 1,
 (8 : Int) = 8,
 th = (rLoad (mkR k g s2 L2) 8 th 6).L.a,
 (6 : Int) = 6,
 dWord (dOf k g) 8 th 6 = (rLoad (mkR k g s2 L2) 8 th 6).L.w,
 dWord (dOf k g) 8 th 6 = (rLoad (mkR k g s2 L2) 8 th 6).L.i,
 false = (rLoad (mkR k g s2 L2) 8 th 6).L.d,
 false = false,
 l ≤ l,
 g = g ∧ plainSh wSh = true ∨ ∀ (i : Nat), i < l → rowOb wSh 0 (g i) (g i),
 decide (lk ≤ 1) = false,
 decide (dWord (dOf k g) 8 th 6 > 0) = false,
 k ≤ l,
 k ≤ 1000000]) := by kernel_rfl
theorem br3f_loc (nb lk th al wt en lk2 th2 ln2 wt2 en2 s2 : Int) (L2 : LS) (k l : Nat) (g : Nat → Nat → AV) : LocOk Tryd.prog 10 [.ptr 1 0 0, .ptr 2 0 0] (br3fH nb lk th al wt en lk2 th2 ln2 wt2 en2 s2 L2 k l g) (br3fR nb lk th al wt en lk2 th2 ln2 wt2 en2 s2 L2 k l g) := by
  refine loc_of_call EBr_ok (fun hp => ?_)
  have hp1 : 0 ≤ th ∧ th < al ∧ al ≤ 16 ∧ -9223372036854775808 ≤ lk ∧ lk ≤ 1000 := hp _ (List.mem_cons_self ..)
  have hkl : k ≤ l := hp _ (List.mem_cons_of_mem _ (List.mem_cons_self ..))
  have hkm : k ≤ 100000 := hp _ (List.mem_cons_of_mem _ (List.mem_cons_of_mem _ (List.mem_cons_self ..)))
  have hr : 0 ≤ nb ∧ nb < 18446744073709551616 ∧ 0 ≤ dWord (dOf k g) 8 th 2 ∧ dWord (dOf k g) 8 th 2 < 18446744073709551616 := hp _ (List.mem_cons_of_mem _ (List.mem_cons_of_mem _ (List.mem_cons_of_mem _ (List.mem_cons_self ..))))
  have hb1 : decide (dWord (dOf k g) 8 th 6 > 0) = false := hp _ (List.mem_cons_of_mem _ (List.mem_cons_of_mem _ (List.mem_cons_of_mem _ (List.mem_cons_of_mem _ (List.mem_cons_self ..)))))
  have hc : 1 < lk := hp _ (List.mem_cons_of_mem _ (List.mem_cons_of_mem _ (List.mem_cons_of_mem _ (List.mem_cons_of_mem _ (List.mem_cons_of_mem _ (List.mem_cons_self ..))))))
  have q1 : lk - 1 = lk2 := hp _ (List.mem_cons_of_mem _ (List.mem_cons_of_mem _ (List.mem_cons_of_mem _ (List.mem_cons_of_mem _ (List.mem_cons_of_mem _ (List.mem_cons_of_mem _ (List.mem_cons_self ..)))))))
  have q2 : th = th2 := hp _ (List.mem_cons_of_mem _ (List.mem_cons_of_mem _ (List.mem_cons_of_mem _ (List.mem_cons_of_mem _ (List.mem_cons_of_mem _ (List.mem_cons_of_mem _ (List.mem_cons_of_mem _ (List.mem_cons_self ..))))))))
  have q3 : (2 : Int) = ln2 := hp _ (List.mem_cons_of_mem _ (List.mem_cons_of_mem _ (List.mem_cons_of_mem _ (List.mem_cons_of_mem _ (List.mem_cons_of_mem _ (List.mem_cons_of_mem _ (List.mem_cons_of_mem _ (List.mem_cons_of_mem _ (List.mem_cons_self ..)))))))))
  have q4 : th = wt2 := hp _ (List.mem_cons_of_mem _ (List.mem_cons_of_mem _ (List.mem_cons_of_mem _ (List.mem_cons_of_mem _ (List.mem_cons_of_mem _ (List.mem_cons_of_mem _ (List.mem_cons_of_mem _ (List.mem_cons_of_mem _ (List.mem_cons_of_mem _ (List.mem_cons_self ..))))))))))
  have q5 : en = en2 := hp _ (List.mem_cons_of_mem _ (List.mem_cons_of_mem _ (List.mem_cons_of_mem _ (List.mem_cons_of_mem _ (List.mem_cons_of_mem _ (List.mem_cons_of_mem _ (List.mem_cons_of_mem _ (List.mem_cons_of_mem _ (List.mem_cons_of_mem _ (List.mem_cons_of_mem _ (List.mem_cons_self ..)))))))))))
  clear hp
  have hw1 : IntKind.i64.wrap (lk - 1) = lk - 1 := i64w (by omega) (by omega)
  have hw2 : IntKind.i64.wrap (lk - 1) = lk2 := by rw [hw1]; exact q1
  have hb2 : decide (lk ≤ 1) = false := decide_eq_false (by omega)
  refine ⟨4000, _, _, _, br3f_1 .., (ob_cons ?_ (ob_cons rfl (ob_cons ?_ (ob_cons ?_ (ob_cons ?_ (ob_cons ?_ (ob_cons rfl (ob_cons rfl (ob_cons rfl (ob_cons rfl (ob_cons ?_ (ob_cons rfl (ob_cons rfl (ob_cons ?_ (ob_cons rfl (ob_cons ?_ (ob_cons ?_ (ob_cons ?_ (ob_cons rfl (ob_cons (Nat.le_refl _) (ob_cons (.inl ⟨rfl, rfl⟩) (ob_cons ?_ (ob_cons ?_ (ob_cons ?_ (ob_cons ?_ ob_nil)))))))))))))))))))))))))⟩
  · exact q3
  · exact hw2
  · exact q5
  · exact q4
  · exact q2
  · exact rfl
  · exact rfl
  · exact rfl
  · exact rfl
  · exact rfl
  · exact hb2
  · exact hb1
  · exact hkl
  · omega
theorem br3g_1 (nb lk th al wt en lk2 th2 ln2 wt2 en2 s2 : Int) (L2 : LS) (k l : Nat) (g : Nat → Nat → AV) : callB EBr 4000 10 [AV.ptr 1 0 0, AV.ptr 2 0 0] (br3gH nb lk th al wt en lk2 th2 ln2 wt2 en2 s2 L2 k l g) (br3gR nb lk th al wt en lk2 th2 ln2 wt2 en2 s2 L2 k l g) [] [Hint.b false, Hint.b true] =
 some ([nb = nb,
 lk = lk2,
 9 = en2,
 th = wt2,
 th = th2,
 al = al,
 (0 : Nat) = 0,
 k = k,
 (none : Option Nat) = none,
 IntKind.i64.wrap (s2 + 1) = (rLoad (mkR k g s2 L2) 8 th 6).st,
 (1 : Int) = 1,
 (8 : Int) = 8,
 th = (rLoad (mkR k g s2 L2) 8 th 6).L.a,
 (6 : Int) = 6,
 dWord (dOf k g) 8 th 6 = (rLoad (mkR k g s2 L2) 8 th 6).L.w,
 dWord (dOf k g) 8 th 6 = (rLoad (mkR k g s2 L2) 8 th 6).L.i,
 false = (rLoad (mkR k g s2 L2) 8 th 6).L.d,
 false = false,
 l ≤ l,
 g = g ∧ plainSh wSh = true ∨ ∀ (i : Nat), i < l → rowOb wSh 0 (g i) (g i),
 decide (lk ≤ 1) = true,
 decide (dWord (dOf k g) 8 th 6 > 0) = false,
 k ≤ l,
 k ≤ 1000000]) := by kernel_rfl
theorem br3g_loc (nb lk th al wt en lk2 th2 ln2 wt2 en2 s2 : Int) (L2 : LS) (k l : Nat) (g : Nat → Nat → AV) : LocOk Tryd.prog 10 [.ptr 1 0 0, .ptr 2 0 0] (br3gH nb lk th al wt en lk2 th2 ln2 wt2 en2 s2 L2 k l g) (br3gR nb lk th al wt en lk2 th2 ln2 wt2 en2 s2 L2 k l g) := by
  refine loc_of_call EBr_ok (fun hp => ?_)
  have hp1 : 0 ≤ th ∧ th < al ∧ al ≤ 16 ∧ -9223372036854775808 ≤ lk ∧ lk ≤ 1000 := hp _ (List.mem_cons_self ..)
  have hkl : k ≤ l := hp _ (List.mem_cons_of_mem _ (List.mem_cons_self ..))
  have hkm : k ≤ 100000 := hp _ (List.mem_cons_of_mem _ (List.mem_cons_of_mem _ (List.mem_cons_self ..)))
  have hr : 0 ≤ nb ∧ nb < 18446744073709551616 ∧ 0 ≤ dWord (dOf k g) 8 th 2 ∧ dWord (dOf k g) 8 th 2 < 18446744073709551616 := hp _ (List.mem_cons_of_mem _ (List.mem_cons_of_mem _ (List.mem_cons_of_mem _ (List.mem_cons_self ..))))
  have hb1 : decide (dWord (dOf k g) 8 th 6 > 0) = false := hp _ (List.mem_cons_of_mem _ (List.mem_cons_of_mem _ (List.mem_cons_of_mem _ (List.mem_cons_of_mem _ (List.mem_cons_self ..)))))
  have hc : ¬ 1 < lk := hp _ (List.mem_cons_of_mem _ (List.mem_cons_of_mem _ (List.mem_cons_of_mem _ (List.mem_cons_of_mem _ (List.mem_cons_of_mem _ (List.mem_cons_self ..))))))
  have q1 : lk = lk2 := hp _ (List.mem_cons_of_mem _ (List.mem_cons_of_mem _ (List.mem_cons_of_mem _ (List.mem_cons_of_mem _ (List.mem_cons_of_mem _ (List.mem_cons_of_mem _ (List.mem_cons_self ..)))))))
  have q2 : th = th2 := hp _ (List.mem_cons_of_mem _ (List.mem_cons_of_mem _ (List.mem_cons_of_mem _ (List.mem_cons_of_mem _ (List.mem_cons_of_mem _ (List.mem_cons_of_mem _ (List.mem_cons_of_mem _ (List.mem_cons_self ..))))))))
  have q4 : th = wt2 := hp _ (List.mem_cons_of_mem _ (List.mem_cons_of_mem _ (List.mem_cons_of_mem _ (List.mem_cons_of_mem _ (List.mem_cons_of_mem _ (List.mem_cons_of_mem _ (List.mem_cons_of_mem _ (List.mem_cons_of_mem _ (List.mem_cons_self ..)))))))))
  have q5 : 9 = en2 := hp _ (List.mem_cons_of_mem _ (List.mem_cons_of_mem _ (List.mem_cons_of_mem _ (List.mem_cons_of_mem _ (List.mem_cons_of_mem _ (List.mem_cons_of_mem _ (List.mem_cons_of_mem _ (List.mem_cons_of_mem _ (List.mem_cons_of_mem _ (List.mem_cons_self ..))))))))))
  clear hp
  have hb2 : decide (lk ≤ 1) = true := decide_eq_true (by omega)
  refine ⟨4000, _, _, _, br3g_1 .., (ob_cons rfl (ob_cons ?_ (ob_cons ?_ (ob_cons ?_ (ob_cons ?_ (ob_cons rfl (ob_cons rfl (ob_cons rfl (ob_cons rfl (ob_cons ?_ (ob_cons rfl (ob_cons rfl (ob_cons ?_ (ob_cons rfl (ob_cons ?_ (ob_cons ?_ (ob_cons ?_ (ob_cons rfl (ob_cons (Nat.le_refl _) (ob_cons (.inl ⟨rfl, rfl⟩) (ob_cons ?_ (ob_cons ?_ (ob_cons ?_ (ob_cons ?_ ob_nil))))))))))))))))))))))))⟩
  · exact q1
  · exact q5
  · exact q4
  · exact q2
  · exact rfl
  · exact rfl
  · exact rfl
  · exact rfl
  · exact rfl
  · exact hb2
  · exact hb1
  · exact hkl
  · omega
end Go.Proofs.YtmlfmmnnbdlabaaDoor
