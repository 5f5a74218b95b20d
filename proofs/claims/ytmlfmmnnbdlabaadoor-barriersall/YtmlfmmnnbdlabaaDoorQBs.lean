/-
  Barriers: a step at a word: ways.
-/
import Derived.Test.YtmlfmmnnbdlabaaDoorQBsDef
set_option linter.unusedSimpArgs false
set_option linter.unusedVariables false
namespace Go.Proofs.YtmlfmmnnbdlabaaDoor
open Go.Ev
theorem bs0n_1 (nb lk th al wt en lk2 th2 at2 wt2 en2 : Int) (S : MS) : callB EBs 4000 11 [AV.ptr 1 0 0, AV.ptr 2 0 0] (bs0nH nb lk th al wt en lk2 th2 at2 wt2 en2 S (tabF tab)) (bs0nR nb lk th al wt en lk2 th2 at2 wt2 en2 S (tabF tab)) [] [Hint.node [(20, [Hint.b false, Hint.b false])], Hint.b true, Hint.node [], Hint.b false] =
 some ([true = true,
 (1 : Nat) ≤ (1 : Nat),
 tabF tab = tabF tab ∧ plainSh (List.map kindOfV tab) = true ∨ ∀ (i : Nat), i < 1 → rowOb (List.map kindOfV tab) 0 (tabF tab i) (tabF tab i),
 nb = nb,
 lk = lk2,
 IntKind.i64.wrap (th + 1) = th2,
 al = al,
 0 = at2,
 -1 = wt2,
 en = en2,
 IntKind.i64.wrap (S.st + 1) = (mLoad S 8 th 0).st,
 (1 : Int) = 1,
 (8 : Int) = 8,
 th = (mLoad S 8 th 0).L.a,
 (0 : Int) = 0,
 mget S.M (key 8 th 0) = (mLoad S 8 th 0).L.w,
 mget S.M (key 8 th 0) = (mLoad S 8 th 0).L.i,
 false = (mLoad S 8 th 0).L.d,
 ∀ (k : List Int), S.M k = S.M k,
 decide (IntKind.i64.wrap (th + 1) ≥ al) = false,
 (mget S.M (key 8 th 0) == 0) = true,
 ((0 : Int) == (6 : Int)) = false,
 ((0 : Int) == (2 : Int)) = false,
 Nat.blt 0 1 = true,
 Nat.blt 0 1 = true]) := by kernel_rfl
theorem bs0n_loc (nb lk th al wt en lk2 th2 at2 wt2 en2 : Int) (S : MS) (FT : Nat → Nat → AV) : LocOk Tryd.prog 11 [.ptr 1 0 0, .ptr 2 0 0] (bs0nH nb lk th al wt en lk2 th2 at2 wt2 en2 S FT) (bs0nR nb lk th al wt en lk2 th2 at2 wt2 en2 S FT) := by
  refine loc_of_call EBs_ok (fun hp => ?_)
  have hFT : FT = tabF tab := hp _ (List.mem_cons_self ..)
  have hp1 : 0 ≤ th ∧ th < al ∧ al ≤ 16 ∧ 1 ≤ lk ∧ lk ≤ 1000 := hp _ (List.mem_cons_of_mem _ (List.mem_cons_self ..))
  have hb1 : (mget S.M (key 8 th 0) == 0) = true := hp _ (List.mem_cons_of_mem _ (List.mem_cons_of_mem _ (List.mem_cons_self ..)))
  have hc : th + 1 < al := hp _ (List.mem_cons_of_mem _ (List.mem_cons_of_mem _ (List.mem_cons_of_mem _ (List.mem_cons_self ..))))
  have q1 : lk = lk2 := hp _ (List.mem_cons_of_mem _ (List.mem_cons_of_mem _ (List.mem_cons_of_mem _ (List.mem_cons_of_mem _ (List.mem_cons_self ..)))))
  have q2 : th + 1 = th2 := hp _ (List.mem_cons_of_mem _ (List.mem_cons_of_mem _ (List.mem_cons_of_mem _ (List.mem_cons_of_mem _ (List.mem_cons_of_mem _ (List.mem_cons_self ..))))))
  have q3 : (0 : Int) = at2 := hp _ (List.mem_cons_of_mem _ (List.mem_cons_of_mem _ (List.mem_cons_of_mem _ (List.mem_cons_of_mem _ (List.mem_cons_of_mem _ (List.mem_cons_of_mem _ (List.mem_cons_self ..)))))))
  have q4 : -1 = wt2 := hp _ (List.mem_cons_of_mem _ (List.mem_cons_of_mem _ (List.mem_cons_of_mem _ (List.mem_cons_of_mem _ (List.mem_cons_of_mem _ (List.mem_cons_of_mem _ (List.mem_cons_of_mem _ (List.mem_cons_self ..))))))))
  have q5 : en = en2 := hp _ (List.mem_cons_of_mem _ (List.mem_cons_of_mem _ (List.mem_cons_of_mem _ (List.mem_cons_of_mem _ (List.mem_cons_of_mem _ (List.mem_cons_of_mem _ (List.mem_cons_of_mem _ (List.mem_cons_of_mem _ (List.mem_cons_self ..)))))))))
  clear hp
  subst hFT
  have hw1 : IntKind.i64.wrap (th + 1) = th + 1 := i64w (by omega) (by omega)
  have hb2 : decide (IntKind.i64.wrap (th + 1) ≥ al) = false := by rw [hw1]; exact decide_eq_false (by omega)
  have hw2 : IntKind.i64.wrap (th + 1) = th2 := by rw [hw1]; exact q2
  refine ⟨4000, _, _, _, bs0n_1 .., (ob_cons rfl (ob_cons (Nat.le_refl _) (ob_cons (.inl ⟨rfl, rfl⟩) (ob_cons rfl (ob_cons ?_ (ob_cons ?_ (ob_cons rfl (ob_cons ?_ (ob_cons ?_ (ob_cons ?_ (ob_cons ?_ (ob_cons rfl (ob_cons rfl (ob_cons ?_ (ob_cons rfl (ob_cons ?_ (ob_cons ?_ (ob_cons ?_ (ob_cons (fun _ => rfl) (ob_cons ?_ (ob_cons ?_ (ob_cons ?_ (ob_cons ?_ (ob_cons rfl (ob_cons rfl ob_nil)))))))))))))))))))))))))⟩
  · exact q1
  · omega
  · exact q3
  · exact q4
  · exact q5
  · exact rfl
  · exact rfl
  · exact rfl
  · exact rfl
  · exact rfl
  · exact hb2
  · exact hb1
  · exact rfl
  · exact rfl
theorem bs0o_1 (nb lk th al wt en lk2 th2 at2 wt2 en2 : Int) (S : MS) : callB EBs 4000 11 [AV.ptr 1 0 0, AV.ptr 2 0 0] (bs0oH nb lk th al wt en lk2 th2 at2 wt2 en2 S (tabF tab)) (bs0oR nb lk th al wt en lk2 th2 at2 wt2 en2 S (tabF tab)) [] [Hint.node [(20, [Hint.b false, Hint.b false])], Hint.b true, Hint.node [], Hint.b true] =
 some ([true = true,
 (1 : Nat) ≤ (1 : Nat),
 tabF tab = tabF tab ∧ plainSh (List.map kindOfV tab) = true ∨ ∀ (i : Nat), i < 1 → rowOb (List.map kindOfV tab) 0 (tabF tab i) (tabF tab i),
 nb = nb,
 lk = lk2,
 IntKind.i64.wrap (th + 1) = th2,
 al = al,
 0 = at2,
 -1 = wt2,
 en = en2,
 IntKind.i64.wrap (S.st + 1) = (mLoad S 8 th 0).st,
 (1 : Int) = 1,
 (8 : Int) = 8,
 th = (mLoad S 8 th 0).L.a,
 (0 : Int) = 0,
 mget S.M (key 8 th 0) = (mLoad S 8 th 0).L.w,
 mget S.M (key 8 th 0) = (mLoad S 8 th 0).L.i,
 false = (mLoad S 8 th 0).L.d,
 ∀ (k : List Int), S.M k = S.M k,
 decide (IntKind.i64.wrap (th + 1) ≥ al) = true,
 (mget S.M (key 8 th 0) == 0) = true,
 ((0 : Int) == (6 : Int)) = false,
 ((0 : Int) == (2 : Int)) = false,
 Nat.blt 0 1 = true,
 Nat.blt 0 1 = true]) := by kernel_rfl
theorem bs0o_loc (nb lk th al wt en lk2 th2 at2 wt2 en2 : Int) (S : MS) (FT : Nat → Nat → AV) : LocOk Tryd.prog 11 [.ptr 1 0 0, .ptr 2 0 0] (bs0oH nb lk th al wt en lk2 th2 at2 wt2 en2 S FT) (bs0oR nb lk th al wt en lk2 th2 at2 wt2 en2 S FT) := by
  refine loc_of_call EBs_ok (fun hp => ?_)
  have hFT : FT = tabF tab := hp _ (List.mem_cons_self ..)
  have hp1 : 0 ≤ th ∧ th < al ∧ al ≤ 16 ∧ 1 ≤ lk ∧ lk ≤ 1000 := hp _ (List.mem_cons_of_mem _ (List.mem_cons_self ..))
  have hb1 : (mget S.M (key 8 th 0) == 0) = true := hp _ (List.mem_cons_of_mem _ (List.mem_cons_of_mem _ (List.mem_cons_self ..)))
  have hc : ¬ th + 1 < al := hp _ (List.mem_cons_of_mem _ (List.mem_cons_of_mem _ (List.mem_cons_of_mem _ (List.mem_cons_self ..))))
  have q1 : lk = lk2 := hp _ (List.mem_cons_of_mem _ (List.mem_cons_of_mem _ (List.mem_cons_of_mem _ (List.mem_cons_of_mem _ (List.mem_cons_self ..)))))
  have q2 : th + 1 = th2 := hp _ (List.mem_cons_of_mem _ (List.mem_cons_of_mem _ (List.mem_cons_of_mem _ (List.mem_cons_of_mem _ (List.mem_cons_of_mem _ (List.mem_cons_self ..))))))
  have q3 : (0 : Int) = at2 := hp _ (List.mem_cons_of_mem _ (List.mem_cons_of_mem _ (List.mem_cons_of_mem _ (List.mem_cons_of_mem _ (List.mem_cons_of_mem _ (List.mem_cons_of_mem _ (List.mem_cons_self ..)))))))
  have q4 : -1 = wt2 := hp _ (List.mem_cons_of_mem _ (List.mem_cons_of_mem _ (List.mem_cons_of_mem _ (List.mem_cons_of_mem _ (List.mem_cons_of_mem _ (List.mem_cons_of_mem _ (List.mem_cons_of_mem _ (List.mem_cons_self ..))))))))
  have q5 : en = en2 := hp _ (List.mem_cons_of_mem _ (List.mem_cons_of_mem _ (List.mem_cons_of_mem _ (List.mem_cons_of_mem _ (List.mem_cons_of_mem _ (List.mem_cons_of_mem _ (List.mem_cons_of_mem _ (List.mem_cons_of_mem _ (List.mem_cons_self ..)))))))))
  clear hp
  subst hFT
  have hw1 : IntKind.i64.wrap (th + 1) = th + 1 := i64w (by omega) (by omega)
  have hb2 : decide (IntKind.i64.wrap (th + 1) ≥ al) = true := by rw [hw1]; exact decide_eq_true (by omega)
  have hw2 : IntKind.i64.wrap (th + 1) = th2 := by rw [hw1]; exact q2
  refine ⟨4000, _, _, _, bs0o_1 .., (ob_cons rfl (ob_cons (Nat.le_refl _) (ob_cons (.inl ⟨rfl, rfl⟩) (ob_cons rfl (ob_cons ?_ (ob_cons ?_ (ob_cons rfl (ob_cons ?_ (ob_cons ?_ (ob_cons ?_ (ob_cons ?_ (ob_cons rfl (ob_cons rfl (ob_cons ?_ (ob_cons rfl (ob_cons ?_ (ob_cons ?_ (ob_cons ?_ (ob_cons (fun _ => rfl) (ob_cons ?_ (ob_cons ?_ (ob_cons ?_ (ob_cons ?_ (ob_cons rfl (ob_cons rfl ob_nil)))))))))))))))))))))))))⟩
  · exact q1
  · omega
  · exact q3
  · exact q4
  · exact q5
  · exact rfl
  · exact rfl
  · exact rfl
  · exact rfl
  · exact rfl
  · exact hb2
  · exact hb1
  · exact rfl
  · exact rfl
theorem bs0f_1 (nb lk th al wt en lk2 th2 at2 wt2 en2 : Int) (S : MS) : callB EBs 4000 11 [AV.ptr 1 0 0, AV.ptr 2 0 0] (bs0fH nb lk th al wt en lk2 th2 at2 wt2 en2 S (tabF tab)) (bs0fR nb lk th al wt en lk2 th2 at2 wt2 en2 S (tabF tab)) [] [Hint.node [(20, [Hint.b false, Hint.b false])], Hint.b false, Hint.node [], Hint.b false] =
 some ([true = true,
 (1 : Nat) ≤ (1 : Nat),
 tabF tab = tabF tab ∧ plainSh (List.map kindOfV tab) = true ∨ ∀ (i : Nat), i < 1 → rowOb (List.map kindOfV tab) 0 (tabF tab i) (tabF tab i),
 nb = nb,
 lk = lk2,
 th = th2,
 al = al,
 1 = at2,
 wt = wt2,
 en = en2,
 IntKind.i64.wrap (S.st + 1) = (mLoad S 8 th 0).st,
 (1 : Int) = 1,
 (8 : Int) = 8,
 th = (mLoad S 8 th 0).L.a,
 (0 : Int) = 0,
 mget S.M (key 8 th 0) = (mLoad S 8 th 0).L.w,
 mget S.M (key 8 th 0) = (mLoad S 8 th 0).L.i,
 false = (mLoad S 8 th 0).L.d,
 ∀ (k : List Int), S.M k = S.M k,
 decide (th ≥ al) = false,
 (mget S.M (key 8 th 0) == 0) = false,
 ((0 : Int) == (6 : Int)) = false,
 ((0 : Int) == (2 : Int)) = false,
 Nat.blt 0 1 = true,
 Nat.blt 0 1 = true]) := by kernel_rfl
theorem bs0f_loc (nb lk th al wt en lk2 th2 at2 wt2 en2 : Int) (S : MS) (FT : Nat → Nat → AV) : LocOk Tryd.prog 11 [.ptr 1 0 0, .ptr 2 0 0] (bs0fH nb lk th al wt en lk2 th2 at2 wt2 en2 S FT) (bs0fR nb lk th al wt en lk2 th2 at2 wt2 en2 S FT) := by
  refine loc_of_call EBs_ok (fun hp => ?_)
  have hFT : FT = tabF tab := hp _ (List.mem_cons_self ..)
  have hp1 : 0 ≤ th ∧ th < al ∧ al ≤ 16 ∧ 1 ≤ lk ∧ lk ≤ 1000 := hp _ (List.mem_cons_of_mem _ (List.mem_cons_self ..))
  have hb1 : (mget S.M (key 8 th 0) == 0) = false := hp _ (List.mem_cons_of_mem _ (List.mem_cons_of_mem _ (List.mem_cons_self ..)))
  have q1 : lk = lk2 := hp _ (List.mem_cons_of_mem _ (List.mem_cons_of_mem _ (List.mem_cons_of_mem _ (List.mem_cons_self ..))))
  have q2 : th = th2 := hp _ (List.mem_cons_of_mem _ (List.mem_cons_of_mem _ (List.mem_cons_of_mem _ (List.mem_cons_of_mem _ (List.mem_cons_self ..)))))
  have q3 : (1 : Int) = at2 := hp _ (List.mem_cons_of_mem _ (List.mem_cons_of_mem _ (List.mem_cons_of_mem _ (List.mem_cons_of_mem _ (List.mem_cons_of_mem _ (List.mem_cons_self ..))))))
  have q4 : wt = wt2 := hp _ (List.mem_cons_of_mem _ (List.mem_cons_of_mem _ (List.mem_cons_of_mem _ (List.mem_cons_of_mem _ (List.mem_cons_of_mem _ (List.mem_cons_of_mem _ (List.mem_cons_self ..)))))))
  have q5 : en = en2 := hp _ (List.mem_cons_of_mem _ (List.mem_cons_of_mem _ (List.mem_cons_of_mem _ (List.mem_cons_of_mem _ (List.mem_cons_of_mem _ (List.mem_cons_of_mem _ (List.mem_cons_of_mem _ (List.mem_cons_self ..))))))))
  clear hp
  subst hFT
  have hb2 : decide (th ≥ al) = false := decide_eq_false (by omega)
  refine ⟨4000, _, _, _, bs0f_1 .., (ob_cons rfl (ob_cons (Nat.le_refl _) (ob_cons (.inl ⟨rfl, rfl⟩) (ob_cons rfl (ob_cons ?_ (ob_cons ?_ (ob_cons rfl (ob_cons ?_ (ob_cons ?_ (ob_cons ?_ (ob_cons ?_ (ob_cons rfl (ob_cons rfl (ob_cons ?_ (ob_cons rfl (ob_cons ?_ (ob_cons ?_ (ob_cons ?_ (ob_cons (fun _ => rfl) (ob_cons ?_ (ob_cons ?_ (ob_cons ?_ (ob_cons ?_ (ob_cons rfl (ob_cons rfl ob_nil)))))))))))))))))))))))))⟩
  · exact q1
  · exact q2
  · exact q3
  · exact q4
  · exact q5
  · exact rfl
  · exact rfl
  · exact rfl
  · exact rfl
  · exact rfl
  · exact hb2
  · exact hb1
  · exact rfl
  · exact rfl
theorem bs1n_1 (nb lk th al wt en lk2 th2 at2 wt2 en2 : Int) (S : MS) : callB EBs 4000 11 [AV.ptr 1 0 0, AV.ptr 2 0 0] (bs1nH nb lk th al wt en lk2 th2 at2 wt2 en2 S (tabF tab)) (bs1nR nb lk th al wt en lk2 th2 at2 wt2 en2 S (tabF tab)) [] [Hint.node [(20, [Hint.b false, Hint.b false])], Hint.b true, Hint.node [], Hint.b false] =
 some ([true = true,
 (1 : Nat) ≤ (1 : Nat),
 tabF tab = tabF tab ∧ plainSh (List.map kindOfV tab) = true ∨ ∀ (i : Nat), i < 1 → rowOb (List.map kindOfV tab) 0 (tabF tab i) (tabF tab i),
 nb = nb,
 lk = lk2,
 IntKind.i64.wrap (th + 1) = th2,
 al = al,
 0 = at2,
 -1 = wt2,
 en = en2,
 IntKind.i64.wrap (S.st + 1) = (mLoad S 8 th 1).st,
 (1 : Int) = 1,
 (8 : Int) = 8,
 th = (mLoad S 8 th 1).L.a,
 (1 : Int) = 1,
 mget S.M (key 8 th 1) = (mLoad S 8 th 1).L.w,
 mget S.M (key 8 th 1) = (mLoad S 8 th 1).L.i,
 false = (mLoad S 8 th 1).L.d,
 ∀ (k : List Int), S.M k = S.M k,
 decide (IntKind.i64.wrap (th + 1) ≥ al) = false,
 (mget S.M (key 8 th 1) == 0) = true,
 ((1 : Int) == (6 : Int)) = false,
 ((1 : Int) == (2 : Int)) = false,
 Nat.blt 0 1 = true,
 Nat.blt 0 1 = true]) := by kernel_rfl
theorem bs1n_loc (nb lk th al wt en lk2 th2 at2 wt2 en2 : Int) (S : MS) (FT : Nat → Nat → AV) : LocOk Tryd.prog 11 [.ptr 1 0 0, .ptr 2 0 0] (bs1nH nb lk th al wt en lk2 th2 at2 wt2 en2 S FT) (bs1nR nb lk th al wt en lk2 th2 at2 wt2 en2 S FT) := by
  refine loc_of_call EBs_ok (fun hp => ?_)
  have hFT : FT = tabF tab := hp _ (List.mem_cons_self ..)
  have hp1 : 0 ≤ th ∧ th < al ∧ al ≤ 16 ∧ 1 ≤ lk ∧ lk ≤ 1000 := hp _ (List.mem_cons_of_mem _ (List.mem_cons_self ..))
  have hb1 : (mget S.M (key 8 th 1) == 0) = true := hp _ (List.mem_cons_of_mem _ (List.mem_cons_of_mem _ (List.mem_cons_self ..)))
  have hc : th + 1 < al := hp _ (List.mem_cons_of_mem _ (List.mem_cons_of_mem _ (List.mem_cons_of_mem _ (List.mem_cons_self ..))))
  have q1 : lk = lk2 := hp _ (List.mem_cons_of_mem _ (List.mem_cons_of_mem _ (List.mem_cons_of_mem _ (List.mem_cons_of_mem _ (List.mem_cons_self ..)))))
  have q2 : th + 1 = th2 := hp _ (List.mem_cons_of_mem _ (List.mem_cons_of_mem _ (List.mem_cons_of_mem _ (List.mem_cons_of_mem _ (List.mem_cons_of_mem _ (List.mem_cons_self ..))))))
  have q3 : (0 : Int) = at2 := hp _ (List.mem_cons_of_mem _ (List.mem_cons_of_mem _ (List.mem_cons_of_mem _ (List.mem_cons_of_mem _ (List.mem_cons_of_mem _ (List.mem_cons_of_mem _ (List.mem_cons_self ..)))))))
  have q4 : -1 = wt2 := hp _ (List.mem_cons_of_mem _ (List.mem_cons_of_mem _ (List.mem_cons_of_mem _ (List.mem_cons_of_mem _ (List.mem_cons_of_mem _ (List.mem_cons_of_mem _ (List.mem_cons_of_mem _ (List.mem_cons_self ..))))))))
  have q5 : en = en2 := hp _ (List.mem_cons_of_mem _ (List.mem_cons_of_mem _ (List.mem_cons_of_mem _ (List.mem_cons_of_mem _ (List.mem_cons_of_mem _ (List.mem_cons_of_mem _ (List.mem_cons_of_mem _ (List.mem_cons_of_mem _ (List.mem_cons_self ..)))))))))
  clear hp
  subst hFT
  have hw1 : IntKind.i64.wrap (th + 1) = th + 1 := i64w (by omega) (by omega)
  have hb2 : decide (IntKind.i64.wrap (th + 1) ≥ al) = false := by rw [hw1]; exact decide_eq_false (by omega)
  have hw2 : IntKind.i64.wrap (th + 1) = th2 := by rw [hw1]; exact q2
  refine ⟨4000, _, _, _, bs1n_1 .., (ob_cons rfl (ob_cons (Nat.le_refl _) (ob_cons (.inl ⟨rfl, rfl⟩) (ob_cons rfl (ob_cons ?_ (ob_cons ?_ (ob_cons rfl (ob_cons ?_ (ob_cons ?_ (ob_cons ?_ (ob_cons ?_ (ob_cons rfl (ob_cons rfl (ob_cons ?_ (ob_cons rfl (ob_cons ?_ (ob_cons ?_ (ob_cons ?_ (ob_cons (fun _ => rfl) (ob_cons ?_ (ob_cons ?_ (ob_cons ?_ (ob_cons ?_ (ob_cons rfl (ob_cons rfl ob_nil)))))))))))))))))))))))))⟩
  · exact q1
  · omega
  · exact q3
  · exact q4
  · exact q5
  · exact rfl
  · exact rfl
  · exact rfl
  · exact rfl
  · exact rfl
  · exact hb2
  · exact hb1
  · exact rfl
  · exact rfl
theorem bs1o_1 (nb lk th al wt en lk2 th2 at2 wt2 en2 : Int) (S : MS) : callB EBs 4000 11 [AV.ptr 1 0 0, AV.ptr 2 0 0] (bs1oH nb lk th al wt en lk2 th2 at2 wt2 en2 S (tabF tab)) (bs1oR nb lk th al wt en lk2 th2 at2 wt2 en2 S (tabF tab)) [] [Hint.node [(20, [Hint.b false, Hint.b false])], Hint.b true, Hint.node [], Hint.b true] =
 some ([true = true,
 (1 : Nat) ≤ (1 : Nat),
 tabF tab = tabF tab ∧ plainSh (List.map kindOfV tab) = true ∨ ∀ (i : Nat), i < 1 → rowOb (List.map kindOfV tab) 0 (tabF tab i) (tabF tab i),
 nb = nb,
 lk = lk2,
 IntKind.i64.wrap (th + 1) = th2,
 al = al,
 0 = at2,
 -1 = wt2,
 en = en2,
 IntKind.i64.wrap (S.st + 1) = (mLoad S 8 th 1).st,
 (1 : Int) = 1,
 (8 : Int) = 8,
 th = (mLoad S 8 th 1).L.a,
 (1 : Int) = 1,
 mget S.M (key 8 th 1) = (mLoad S 8 th 1).L.w,
 mget S.M (key 8 th 1) = (mLoad S 8 th 1).L.i,
 false = (mLoad S 8 th 1).L.d,
 ∀ (k : List Int), S.M k = S.M k,
 decide (IntKind.i64.wrap (th + 1) ≥ al) = true,
 (mget S.M (key 8 th 1) == 0) = true,
 ((1 : Int) == (6 : Int)) = false,
 ((1 : Int) == (2 : Int)) = false,
 Nat.blt 0 1 = true,
 Nat.blt 0 1 = true]) := by kernel_rfl
theorem bs1o_loc (nb lk th al wt en lk2 th2 at2 wt2 en2 : Int) (S : MS) (FT : Nat → Nat → AV) : LocOk Tryd.prog 11 [.ptr 1 0 0, .ptr 2 0 0] (bs1oH nb lk th al wt en lk2 th2 at2 wt2 en2 S FT) (bs1oR nb lk th al wt en lk2 th2 at2 wt2 en2 S FT) := by
  refine loc_of_call EBs_ok (fun hp => ?_)
  have hFT : FT = tabF tab := hp _ (List.mem_cons_self ..)
  have hp1 : 0 ≤ th ∧ th < al ∧ al ≤ 16 ∧ 1 ≤ lk ∧ lk ≤ 1000 := hp _ (List.mem_cons_of_mem _ (List.mem_cons_self ..))
  have hb1 : (mget S.M (key 8 th 1) == 0) = true := hp _ (List.mem_cons_of_mem _ (List.mem_cons_of_mem _ (List.mem_cons_self ..)))
  have hc : ¬ th + 1 < al := hp _ (List.mem_cons_of_mem _ (List.mem_cons_of_mem _ (List.mem_cons_of_mem _ (List.mem_cons_self ..))))
  have q1 : lk = lk2 := hp _ (List.mem_cons_of_mem _ (List.mem_cons_of_mem _ (List.mem_cons_of_mem _ (List.mem_cons_of_mem _ (List.mem_cons_self ..)))))
  have q2 : th + 1 = th2 := hp _ (List.mem_cons_of_mem _ (List.mem_cons_of_mem _ (List.mem_cons_of_mem _ (List.mem_cons_of_mem _ (List.mem_cons_of_mem _ (List.mem_cons_self ..))))))
  have q3 : (0 : Int) = at2 := hp _ (List.mem_cons_of_mem _ (List.mem_cons_of_mem _ (List.mem_cons_of_mem _ (List.mem_cons_of_mem _ (List.mem_cons_of_mem _ (List.mem_cons_of_mem _ (List.mem_cons_self ..)))))))
  have q4 : -1 = wt2 := hp _ (List.mem_cons_of_mem _ (List.mem_cons_of_mem _ (List.mem_cons_of_mem _ (List.mem_cons_of_mem _ (List.mem_cons_of_mem _ (List.mem_cons_of_mem _ (List.mem_cons_of_mem _ (List.mem_cons_self ..))))))))
  have q5 : en = en2 := hp _ (List.mem_cons_of_mem _ (List.mem_cons_of_mem _ (List.mem_cons_of_mem _ (List.mem_cons_of_mem _ (List.mem_cons_of_mem _ (List.mem_cons_of_mem _ (List.mem_cons_of_mem _ (List.mem_cons_of_mem _ (List.mem_cons_self ..)))))))))
  clear hp
  subst hFT
  have hw1 : IntKind.i64.wrap (th + 1) = th + 1 := i64w (by omega) (by omega)
  have hb2 : decide (IntKind.i64.wrap (th + 1) ≥ al) = true := by rw [hw1]; exact decide_eq_true (by omega)
  have hw2 : IntKind.i64.wrap (th + 1) = th2 := by rw [hw1]; exact q2
  refine ⟨4000, _, _, _, bs1o_1 .., (ob_cons rfl (ob_cons (Nat.le_refl _) (ob_cons (.inl ⟨rfl, rfl⟩) (ob_cons rfl (ob_cons ?_ (ob_cons ?_ (ob_cons rfl (ob_cons ?_ (ob_cons ?_ (ob_cons ?_ (ob_cons ?_ (ob_cons rfl (ob_cons rfl (ob_cons ?_ (ob_cons rfl (ob_cons ?_ (ob_cons ?_ (ob_cons ?_ (ob_cons (fun _ => rfl) (ob_cons ?_ (ob_cons ?_ (ob_cons ?_ (ob_cons ?_ (ob_cons rfl (ob_cons rfl ob_nil)))))))))))))))))))))))))⟩
  · exact q1
  · omega
  · exact q3
  · exact q4
  · exact q5
  · exact rfl
  · exact rfl
  · exact rfl
  · exact rfl
  · exact rfl
  · exact hb2
  · exact hb1
  · exact rfl
  · exact rfl
theorem bs1f_1 (nb lk th al wt en lk2 th2 at2 wt2 en2 : Int) (S : MS) : callB EBs 4000 11 [AV.ptr 1 0 0, AV.ptr 2 0 0] (bs1fH nb lk th al wt en lk2 th2 at2 wt2 en2 S (tabF tab)) (bs1fR nb lk th al wt en lk2 th2 at2 wt2 en2 S (tabF tab)) [] [Hint.node [(20, [Hint.b false, Hint.b false])], Hint.b false, Hint.node [], Hint.b false] =
 some ([true = true,
 (1 : Nat) ≤ (1 : Nat),
 tabF tab = tabF tab ∧ plainSh (List.map kindOfV tab) = true ∨ ∀ (i : Nat), i < 1 → rowOb (List.map kindOfV tab) 0 (tabF tab i) (tabF tab i),
 nb = nb,
 lk = lk2,
 th = th2,
 al = al,
 2 = at2,
 wt = wt2,
 en = en2,
 IntKind.i64.wrap (S.st + 1) = (mLoad S 8 th 1).st,
 (1 : Int) = 1,
 (8 : Int) = 8,
 th = (mLoad S 8 th 1).L.a,
 (1 : Int) = 1,
 mget S.M (key 8 th 1) = (mLoad S 8 th 1).L.w,
 mget S.M (key 8 th 1) = (mLoad S 8 th 1).L.i,
 false = (mLoad S 8 th 1).L.d,
 ∀ (k : List Int), S.M k = S.M k,
 decide (th ≥ al) = false,
 (mget S.M (key 8 th 1) == 0) = false,
 ((1 : Int) == (6 : Int)) = false,
 ((1 : Int) == (2 : Int)) = false,
 Nat.blt 0 1 = true,
 Nat.blt 0 1 = true]) := by kernel_rfl
theorem bs1f_loc (nb lk th al wt en lk2 th2 at2 wt2 en2 : Int) (S : MS) (FT : Nat → Nat → AV) : LocOk Tryd.prog 11 [.ptr 1 0 0, .ptr 2 0 0] (bs1fH nb lk th al wt en lk2 th2 at2 wt2 en2 S FT) (bs1fR nb lk th al wt en lk2 th2 at2 wt2 en2 S FT) := by
  refine loc_of_call EBs_ok (fun hp => ?_)
  have hFT : FT = tabF tab := hp _ (List.mem_cons_self ..)
  have hp1 : 0 ≤ th ∧ th < al ∧ al ≤ 16 ∧ 1 ≤ lk ∧ lk ≤ 1000 := hp _ (List.mem_cons_of_mem _ (List.mem_cons_self ..))
  have hb1 : (mget S.M (key 8 th 1) == 0) = false := hp _ (List.mem_cons_of_mem _ (List.mem_cons_of_mem _ (List.mem_cons_self ..)))
  have q1 : lk = lk2 := hp _ (List.mem_cons_of_mem _ (List.mem_cons_of_mem _ (List.mem_cons_of_mem _ (List.mem_cons_self ..))))
  have q2 : th = th2 := hp _ (List.mem_cons_of_mem _ (List.mem_cons_of_mem _ (List.mem_cons_of_mem _ (List.mem_cons_of_mem _ (List.mem_cons_self ..)))))
  have q3 : (2 : Int) = at2 := hp _ (List.mem_cons_of_mem _ (List.mem_cons_of_mem _ (List.mem_cons_of_mem _ (List.mem_cons_of_mem _ (List.mem_cons_of_mem _ (List.mem_cons_self ..))))))
  have q4 : wt = wt2 := hp _ (List.mem_cons_of_mem _ (List.mem_cons_of_mem _ (List.mem_cons_of_mem _ (List.mem_cons_of_mem _ (List.mem_cons_of_mem _ (List.mem_cons_of_mem _ (List.mem_cons_self ..)))))))
  have q5 : en = en2 := hp _ (List.mem_cons_of_mem _ (List.mem_cons_of_mem _ (List.mem_cons_of_mem _ (List.mem_cons_of_mem _ (List.mem_cons_of_mem _ (List.mem_cons_of_mem _ (List.mem_cons_of_mem _ (List.mem_cons_self ..))))))))
  clear hp
  subst hFT
  have hb2 : decide (th ≥ al) = false := decide_eq_false (by omega)
  refine ⟨4000, _, _, _, bs1f_1 .., (ob_cons rfl (ob_cons (Nat.le_refl _) (ob_cons (.inl ⟨rfl, rfl⟩) (ob_cons rfl (ob_cons ?_ (ob_cons ?_ (ob_cons rfl (ob_cons ?_ (ob_cons ?_ (ob_cons ?_ (ob_cons ?_ (ob_cons rfl (ob_cons rfl (ob_cons ?_ (ob_cons rfl (ob_cons ?_ (ob_cons ?_ (ob_cons ?_ (ob_cons (fun _ => rfl) (ob_cons ?_ (ob_cons ?_ (ob_cons ?_ (ob_cons ?_ (ob_cons rfl (ob_cons rfl ob_nil)))))))))))))))))))))))))⟩
  · exact q1
  · exact q2
  · exact q3
  · exact q4
  · exact q5
  · exact rfl
  · exact rfl
  · exact rfl
  · exact rfl
  · exact rfl
  · exact hb2
  · exact hb1
  · exact rfl
  · exact rfl
theorem bs2n_1 (nb lk th al wt en lk2 th2 at2 wt2 en2 : Int) (S : MS) : callB EBs 4000 11 [AV.ptr 1 0 0, AV.ptr 2 0 0] (bs2nH nb lk th al wt en lk2 th2 at2 wt2 en2 S (tabF tab)) (bs2nR nb lk th al wt en lk2 th2 at2 wt2 en2 S (tabF tab)) [] [Hint.node [(20, [Hint.b true])], Hint.b true, Hint.node [], Hint.b false] =
 some ([true = true,
 (1 : Nat) ≤ (1 : Nat),
 tabF tab = tabF tab ∧ plainSh (List.map kindOfV tab) = true ∨ ∀ (i : Nat), i < 1 → rowOb (List.map kindOfV tab) 0 (tabF tab i) (tabF tab i),
 nb = nb,
 lk = lk2,
 IntKind.i64.wrap (th + 1) = th2,
 al = al,
 0 = at2,
 -1 = wt2,
 en = en2,
 IntKind.i64.wrap (S.st + 1) = (mLoad S 8 th 2).st,
 (1 : Int) = 1,
 (8 : Int) = 8,
 th = (mLoad S 8 th 2).L.a,
 (2 : Int) = 2,
 mget S.M (key 8 th 2) = (mLoad S 8 th 2).L.w,
 mget S.M (key 8 th 2) = (mLoad S 8 th 2).L.i,
 false = (mLoad S 8 th 2).L.d,
 ∀ (k : List Int), S.M k = S.M k,
 decide (IntKind.i64.wrap (th + 1) ≥ al) = false,
 decide ((IntKind.u64.wrap (mget S.M (key 8 th 2) - nb)).tmod 281474976710656 < 140737488355328) = true,
 ((2 : Int) == (2 : Int)) = true,
 Nat.blt 0 1 = true,
 Nat.blt 0 1 = true]) := by kernel_rfl
theorem bs2n_loc (nb lk th al wt en lk2 th2 at2 wt2 en2 : Int) (S : MS) (FT : Nat → Nat → AV) : LocOk Tryd.prog 11 [.ptr 1 0 0, .ptr 2 0 0] (bs2nH nb lk th al wt en lk2 th2 at2 wt2 en2 S FT) (bs2nR nb lk th al wt en lk2 th2 at2 wt2 en2 S FT) := by
  refine loc_of_call EBs_ok (fun hp => ?_)
  have hFT : FT = tabF tab := hp _ (List.mem_cons_self ..)
  have hp1 : 0 ≤ th ∧ th < al ∧ al ≤ 16 ∧ 1 ≤ lk ∧ lk ≤ 1000 := hp _ (List.mem_cons_of_mem _ (List.mem_cons_self ..))
  have hb1 : bpReach nb (mget S.M (key 8 th 2)) = true := hp _ (List.mem_cons_of_mem _ (List.mem_cons_of_mem _ (List.mem_cons_self ..)))
  have hc : th + 1 < al := hp _ (List.mem_cons_of_mem _ (List.mem_cons_of_mem _ (List.mem_cons_of_mem _ (List.mem_cons_self ..))))
  have q1 : lk = lk2 := hp _ (List.mem_cons_of_mem _ (List.mem_cons_of_mem _ (List.mem_cons_of_mem _ (List.mem_cons_of_mem _ (List.mem_cons_self ..)))))
  have q2 : th + 1 = th2 := hp _ (List.mem_cons_of_mem _ (List.mem_cons_of_mem _ (List.mem_cons_of_mem _ (List.mem_cons_of_mem _ (List.mem_cons_of_mem _ (List.mem_cons_self ..))))))
  have q3 : (0 : Int) = at2 := hp _ (List.mem_cons_of_mem _ (List.mem_cons_of_mem _ (List.mem_cons_of_mem _ (List.mem_cons_of_mem _ (List.mem_cons_of_mem _ (List.mem_cons_of_mem _ (List.mem_cons_self ..)))))))
  have q4 : -1 = wt2 := hp _ (List.mem_cons_of_mem _ (List.mem_cons_of_mem _ (List.mem_cons_of_mem _ (List.mem_cons_of_mem _ (List.mem_cons_of_mem _ (List.mem_cons_of_mem _ (List.mem_cons_of_mem _ (List.mem_cons_self ..))))))))
  have q5 : en = en2 := hp _ (List.mem_cons_of_mem _ (List.mem_cons_of_mem _ (List.mem_cons_of_mem _ (List.mem_cons_of_mem _ (List.mem_cons_of_mem _ (List.mem_cons_of_mem _ (List.mem_cons_of_mem _ (List.mem_cons_of_mem _ (List.mem_cons_self ..)))))))))
  clear hp
  subst hFT
  have hw1 : IntKind.i64.wrap (th + 1) = th + 1 := i64w (by omega) (by omega)
  have hb2 : decide (IntKind.i64.wrap (th + 1) ≥ al) = false := by rw [hw1]; exact decide_eq_false (by omega)
  have hw2 : IntKind.i64.wrap (th + 1) = th2 := by rw [hw1]; exact q2
  refine ⟨4000, _, _, _, bs2n_1 .., (ob_cons rfl (ob_cons (Nat.le_refl _) (ob_cons (.inl ⟨rfl, rfl⟩) (ob_cons rfl (ob_cons ?_ (ob_cons ?_ (ob_cons rfl (ob_cons ?_ (ob_cons ?_ (ob_cons ?_ (ob_cons ?_ (ob_cons rfl (ob_cons rfl (ob_cons ?_ (ob_cons rfl (ob_cons ?_ (ob_cons ?_ (ob_cons ?_ (ob_cons (fun _ => rfl) (ob_cons ?_ (ob_cons ?_ (ob_cons ?_ (ob_cons rfl (ob_cons rfl ob_nil))))))))))))))))))))))))⟩
  · exact q1
  · omega
  · exact q3
  · exact q4
  · exact q5
  · exact rfl
  · exact rfl
  · exact rfl
  · exact rfl
  · exact rfl
  · exact hb2
  · exact hb1
  · exact rfl
theorem bs2o_1 (nb lk th al wt en lk2 th2 at2 wt2 en2 : Int) (S : MS) : callB EBs 4000 11 [AV.ptr 1 0 0, AV.ptr 2 0 0] (bs2oH nb lk th al wt en lk2 th2 at2 wt2 en2 S (tabF tab)) (bs2oR nb lk th al wt en lk2 th2 at2 wt2 en2 S (tabF tab)) [] [Hint.node [(20, [Hint.b true])], Hint.b true, Hint.node [], Hint.b true] =
 some ([true = true,
 (1 : Nat) ≤ (1 : Nat),
 tabF tab = tabF tab ∧ plainSh (List.map kindOfV tab) = true ∨ ∀ (i : Nat), i < 1 → rowOb (List.map kindOfV tab) 0 (tabF tab i) (tabF tab i),
 nb = nb,
 lk = lk2,
 IntKind.i64.wrap (th + 1) = th2,
 al = al,
 0 = at2,
 -1 = wt2,
 en = en2,
 IntKind.i64.wrap (S.st + 1) = (mLoad S 8 th 2).st,
 (1 : Int) = 1,
 (8 : Int) = 8,
 th = (mLoad S 8 th 2).L.a,
 (2 : Int) = 2,
 mget S.M (key 8 th 2) = (mLoad S 8 th 2).L.w,
 mget S.M (key 8 th 2) = (mLoad S 8 th 2).L.i,
 false = (mLoad S 8 th 2).L.d,
 ∀ (k : List Int), S.M k = S.M k,
 decide (IntKind.i64.wrap (th + 1) ≥ al) = true,
 decide ((IntKind.u64.wrap (mget S.M (key 8 th 2) - nb)).tmod 281474976710656 < 140737488355328) = true,
 ((2 : Int) == (2 : Int)) = true,
 Nat.blt 0 1 = true,
 Nat.blt 0 1 = true]) := by kernel_rfl
theorem bs2o_loc (nb lk th al wt en lk2 th2 at2 wt2 en2 : Int) (S : MS) (FT : Nat → Nat → AV) : LocOk Tryd.prog 11 [.ptr 1 0 0, .ptr 2 0 0] (bs2oH nb lk th al wt en lk2 th2 at2 wt2 en2 S FT) (bs2oR nb lk th al wt en lk2 th2 at2 wt2 en2 S FT) := by
  refine loc_of_call EBs_ok (fun hp => ?_)
  have hFT : FT = tabF tab := hp _ (List.mem_cons_self ..)
  have hp1 : 0 ≤ th ∧ th < al ∧ al ≤ 16 ∧ 1 ≤ lk ∧ lk ≤ 1000 := hp _ (List.mem_cons_of_mem _ (List.mem_cons_self ..))
  have hb1 : bpReach nb (mget S.M (key 8 th 2)) = true := hp _ (List.mem_cons_of_mem _ (List.mem_cons_of_mem _ (List.mem_cons_self ..)))
  have hc : ¬ th + 1 < al := hp _ (List.mem_cons_of_mem _ (List.mem_cons_of_mem _ (List.mem_cons_of_mem _ (List.mem_cons_self ..))))
  have q1 : lk = lk2 := hp _ (List.mem_cons_of_mem _ (List.mem_cons_of_mem _ (List.mem_cons_of_mem _ (List.mem_cons_of_mem _ (List.mem_cons_self ..)))))
  have q2 : th + 1 = th2 := hp _ (List.mem_cons_of_mem _ (List.mem_cons_of_mem _ (List.mem_cons_of_mem _ (List.mem_cons_of_mem _ (List.mem_cons_of_mem _ (List.mem_cons_self ..))))))
  have q3 : (0 : Int) = at2 := hp _ (List.mem_cons_of_mem _ (List.mem_cons_of_mem _ (List.mem_cons_of_mem _ (List.mem_cons_of_mem _ (List.mem_cons_of_mem _ (List.mem_cons_of_mem _ (List.mem_cons_self ..)))))))
  have q4 : -1 = wt2 := hp _ (List.mem_cons_of_mem _ (List.mem_cons_of_mem _ (List.mem_cons_of_mem _ (List.mem_cons_of_mem _ (List.mem_cons_of_mem _ (List.mem_cons_of_mem _ (List.mem_cons_of_mem _ (List.mem_cons_self ..))))))))
  have q5 : en = en2 := hp _ (List.mem_cons_of_mem _ (List.mem_cons_of_mem _ (List.mem_cons_of_mem _ (List.mem_cons_of_mem _ (List.mem_cons_of_mem _ (List.mem_cons_of_mem _ (List.mem_cons_of_mem _ (List.mem_cons_of_mem _ (List.mem_cons_self ..)))))))))
  clear hp
  subst hFT
  have hw1 : IntKind.i64.wrap (th + 1) = th + 1 := i64w (by omega) (by omega)
  have hb2 : decide (IntKind.i64.wrap (th + 1) ≥ al) = true := by rw [hw1]; exact decide_eq_true (by omega)
  have hw2 : IntKind.i64.wrap (th + 1) = th2 := by rw [hw1]; exact q2
  refine ⟨4000, _, _, _, bs2o_1 .., (ob_cons rfl (ob_cons (Nat.le_refl _) (ob_cons (.inl ⟨rfl, rfl⟩) (ob_cons rfl (ob_cons ?_ (ob_cons ?_ (ob_cons rfl (ob_cons ?_ (ob_cons ?_ (ob_cons ?_ (ob_cons ?_ (ob_cons rfl (ob_cons rfl (ob_cons ?_ (ob_cons rfl (ob_cons ?_ (ob_cons ?_ (ob_cons ?_ (ob_cons (fun _ => rfl) (ob_cons ?_ (ob_cons ?_ (ob_cons ?_ (ob_cons rfl (ob_cons rfl ob_nil))))))))))))))))))))))))⟩
  · exact q1
  · omega
  · exact q3
  · exact q4
  · exact q5
  · exact rfl
  · exact rfl
  · exact rfl
  · exact rfl
  · exact rfl
  · exact hb2
  · exact hb1
  · exact rfl
theorem bs2f_1 (nb lk th al wt en lk2 th2 at2 wt2 en2 : Int) (S : MS) : callB EBs 4000 11 [AV.ptr 1 0 0, AV.ptr 2 0 0] (bs2fH nb lk th al wt en lk2 th2 at2 wt2 en2 S (tabF tab)) (bs2fR nb lk th al wt en lk2 th2 at2 wt2 en2 S (tabF tab)) [] [Hint.node [(20, [Hint.b true])], Hint.b false, Hint.node [], Hint.b false] =
 some ([true = true,
 (1 : Nat) ≤ (1 : Nat),
 tabF tab = tabF tab ∧ plainSh (List.map kindOfV tab) = true ∨ ∀ (i : Nat), i < 1 → rowOb (List.map kindOfV tab) 0 (tabF tab i) (tabF tab i),
 nb = nb,
 lk = lk2,
 th = th2,
 al = al,
 3 = at2,
 wt = wt2,
 en = en2,
 IntKind.i64.wrap (S.st + 1) = (mLoad S 8 th 2).st,
 (1 : Int) = 1,
 (8 : Int) = 8,
 th = (mLoad S 8 th 2).L.a,
 (2 : Int) = 2,
 mget S.M (key 8 th 2) = (mLoad S 8 th 2).L.w,
 mget S.M (key 8 th 2) = (mLoad S 8 th 2).L.i,
 false = (mLoad S 8 th 2).L.d,
 ∀ (k : List Int), S.M k = S.M k,
 decide (th ≥ al) = false,
 decide ((IntKind.u64.wrap (mget S.M (key 8 th 2) - nb)).tmod 281474976710656 < 140737488355328) = false,
 ((2 : Int) == (2 : Int)) = true,
 Nat.blt 0 1 = true,
 Nat.blt 0 1 = true]) := by kernel_rfl
theorem bs2f_loc (nb lk th al wt en lk2 th2 at2 wt2 en2 : Int) (S : MS) (FT : Nat → Nat → AV) : LocOk Tryd.prog 11 [.ptr 1 0 0, .ptr 2 0 0] (bs2fH nb lk th al wt en lk2 th2 at2 wt2 en2 S FT) (bs2fR nb lk th al wt en lk2 th2 at2 wt2 en2 S FT) := by
  refine loc_of_call EBs_ok (fun hp => ?_)
  have hFT : FT = tabF tab := hp _ (List.mem_cons_self ..)
  have hp1 : 0 ≤ th ∧ th < al ∧ al ≤ 16 ∧ 1 ≤ lk ∧ lk ≤ 1000 := hp _ (List.mem_cons_of_mem _ (List.mem_cons_self ..))
  have hb1 : bpReach nb (mget S.M (key 8 th 2)) = false := hp _ (List.mem_cons_of_mem _ (List.mem_cons_of_mem _ (List.mem_cons_self ..)))
  have q1 : lk = lk2 := hp _ (List.mem_cons_of_mem _ (List.mem_cons_of_mem _ (List.mem_cons_of_mem _ (List.mem_cons_self ..))))
  have q2 : th = th2 := hp _ (List.mem_cons_of_mem _ (List.mem_cons_of_mem _ (List.mem_cons_of_mem _ (List.mem_cons_of_mem _ (List.mem_cons_self ..)))))
  have q3 : (3 : Int) = at2 := hp _ (List.mem_cons_of_mem _ (List.mem_cons_of_mem _ (List.mem_cons_of_mem _ (List.mem_cons_of_mem _ (List.mem_cons_of_mem _ (List.mem_cons_self ..))))))
  have q4 : wt = wt2 := hp _ (List.mem_cons_of_mem _ (List.mem_cons_of_mem _ (List.mem_cons_of_mem _ (List.mem_cons_of_mem _ (List.mem_cons_of_mem _ (List.mem_cons_of_mem _ (List.mem_cons_self ..)))))))
  have q5 : en = en2 := hp _ (List.mem_cons_of_mem _ (List.mem_cons_of_mem _ (List.mem_cons_of_mem _ (List.mem_cons_of_mem _ (List.mem_cons_of_mem _ (List.mem_cons_of_mem _ (List.mem_cons_of_mem _ (List.mem_cons_self ..))))))))
  clear hp
  subst hFT
  have hb2 : decide (th ≥ al) = false := decide_eq_false (by omega)
  refine ⟨4000, _, _, _, bs2f_1 .., (ob_cons rfl (ob_cons (Nat.le_refl _) (ob_cons (.inl ⟨rfl, rfl⟩) (ob_cons rfl (ob_cons ?_ (ob_cons ?_ (ob_cons rfl (ob_cons ?_ (ob_cons ?_ (ob_cons ?_ (ob_cons ?_ (ob_cons rfl (ob_cons rfl (ob_cons ?_ (ob_cons rfl (ob_cons ?_ (ob_cons ?_ (ob_cons ?_ (ob_cons (fun _ => rfl) (ob_cons ?_ (ob_cons ?_ (ob_cons ?_ (ob_cons rfl (ob_cons rfl ob_nil))))))))))))))))))))))))⟩
  · exact q1
  · exact q2
  · exact q3
  · exact q4
  · exact q5
  · exact rfl
  · exact rfl
  · exact rfl
  · exact rfl
  · exact rfl
  · exact hb2
  · exact hb1
  · exact rfl
theorem bs3n_1 (nb lk th al wt en lk2 th2 at2 wt2 en2 : Int) (S : MS) : callB EBs 4000 11 [AV.ptr 1 0 0, AV.ptr 2 0 0] (bs3nH nb lk th al wt en lk2 th2 at2 wt2 en2 S (tabF tab)) (bs3nR nb lk th al wt en lk2 th2 at2 wt2 en2 S (tabF tab)) [] [Hint.node [(20, [Hint.b false, Hint.b true])], Hint.b true, Hint.node [], Hint.b false] =
 some ([true = true,
 (1 : Nat) ≤ (1 : Nat),
 tabF tab = tabF tab ∧ plainSh (List.map kindOfV tab) = true ∨ ∀ (i : Nat), i < 1 → rowOb (List.map kindOfV tab) 0 (tabF tab i) (tabF tab i),
 nb = nb,
 lk = lk2,
 IntKind.i64.wrap (th + 1) = th2,
 al = al,
 0 = at2,
 -1 = wt2,
 en = en2,
 IntKind.i64.wrap (S.st + 1) = (mLoad S 8 th 6).st,
 (1 : Int) = 1,
 (8 : Int) = 8,
 th = (mLoad S 8 th 6).L.a,
 (6 : Int) = 6,
 mget S.M (key 8 th 6) = (mLoad S 8 th 6).L.w,
 mget S.M (key 8 th 6) = (mLoad S 8 th 6).L.i,
 false = (mLoad S 8 th 6).L.d,
 ∀ (k : List Int), S.M k = S.M k,
 decide (IntKind.i64.wrap (th + 1) ≥ al) = false,
 (mget S.M (key 8 th 6) != 0) = true,
 ((6 : Int) == (6 : Int)) = true,
 ((6 : Int) == (2 : Int)) = false,
 Nat.blt 0 1 = true,
 Nat.blt 0 1 = true]) := by kernel_rfl
theorem bs3n_loc (nb lk th al wt en lk2 th2 at2 wt2 en2 : Int) (S : MS) (FT : Nat → Nat → AV) : LocOk Tryd.prog 11 [.ptr 1 0 0, .ptr 2 0 0] (bs3nH nb lk th al wt en lk2 th2 at2 wt2 en2 S FT) (bs3nR nb lk th al wt en lk2 th2 at2 wt2 en2 S FT) := by
  refine loc_of_call EBs_ok (fun hp => ?_)
  have hFT : FT = tabF tab := hp _ (List.mem_cons_self ..)
  have hp1 : 0 ≤ th ∧ th < al ∧ al ≤ 16 ∧ 1 ≤ lk ∧ lk ≤ 1000 := hp _ (List.mem_cons_of_mem _ (List.mem_cons_self ..))
  have hb1 : (mget S.M (key 8 th 6) != 0) = true := hp _ (List.mem_cons_of_mem _ (List.mem_cons_of_mem _ (List.mem_cons_self ..)))
  have hc : th + 1 < al := hp _ (List.mem_cons_of_mem _ (List.mem_cons_of_mem _ (List.mem_cons_of_mem _ (List.mem_cons_self ..))))
  have q1 : lk = lk2 := hp _ (List.mem_cons_of_mem _ (List.mem_cons_of_mem _ (List.mem_cons_of_mem _ (List.mem_cons_of_mem _ (List.mem_cons_self ..)))))
  have q2 : th + 1 = th2 := hp _ (List.mem_cons_of_mem _ (List.mem_cons_of_mem _ (List.mem_cons_of_mem _ (List.mem_cons_of_mem _ (List.mem_cons_of_mem _ (List.mem_cons_self ..))))))
  have q3 : (0 : Int) = at2 := hp _ (List.mem_cons_of_mem _ (List.mem_cons_of_mem _ (List.mem_cons_of_mem _ (List.mem_cons_of_mem _ (List.mem_cons_of_mem _ (List.mem_cons_of_mem _ (List.mem_cons_self ..)))))))
  have q4 : -1 = wt2 := hp _ (List.mem_cons_of_mem _ (List.mem_cons_of_mem _ (List.mem_cons_of_mem _ (List.mem_cons_of_mem _ (List.mem_cons_of_mem _ (List.mem_cons_of_mem _ (List.mem_cons_of_mem _ (List.mem_cons_self ..))))))))
  have q5 : en = en2 := hp _ (List.mem_cons_of_mem _ (List.mem_cons_of_mem _ (List.mem_cons_of_mem _ (List.mem_cons_of_mem _ (List.mem_cons_of_mem _ (List.mem_cons_of_mem _ (List.mem_cons_of_mem _ (List.mem_cons_of_mem _ (List.mem_cons_self ..)))))))))
  clear hp
  subst hFT
  have hw1 : IntKind.i64.wrap (th + 1) = th + 1 := i64w (by omega) (by omega)
  have hb2 : decide (IntKind.i64.wrap (th + 1) ≥ al) = false := by rw [hw1]; exact decide_eq_false (by omega)
  have hw2 : IntKind.i64.wrap (th + 1) = th2 := by rw [hw1]; exact q2
  refine ⟨4000, _, _, _, bs3n_1 .., (ob_cons rfl (ob_cons (Nat.le_refl _) (ob_cons (.inl ⟨rfl, rfl⟩) (ob_cons rfl (ob_cons ?_ (ob_cons ?_ (ob_cons rfl (ob_cons ?_ (ob_cons ?_ (ob_cons ?_ (ob_cons ?_ (ob_cons rfl (ob_cons rfl (ob_cons ?_ (ob_cons rfl (ob_cons ?_ (ob_cons ?_ (ob_cons ?_ (ob_cons (fun _ => rfl) (ob_cons ?_ (ob_cons ?_ (ob_cons ?_ (ob_cons ?_ (ob_cons rfl (ob_cons rfl ob_nil)))))))))))))))))))))))))⟩
  · exact q1
  · omega
  · exact q3
  · exact q4
  · exact q5
  · exact rfl
  · exact rfl
  · exact rfl
  · exact rfl
  · exact rfl
  · exact hb2
  · exact hb1
  · exact rfl
  · exact rfl
theorem bs3o_1 (nb lk th al wt en lk2 th2 at2 wt2 en2 : Int) (S : MS) : callB EBs 4000 11 [AV.ptr 1 0 0, AV.ptr 2 0 0] (bs3oH nb lk th al wt en lk2 th2 at2 wt2 en2 S (tabF tab)) (bs3oR nb lk th al wt en lk2 th2 at2 wt2 en2 S (tabF tab)) [] [Hint.node [(20, [Hint.b false, Hint.b true])], Hint.b true, Hint.node [], Hint.b true] =
 some ([true = true,
 (1 : Nat) ≤ (1 : Nat),
 tabF tab = tabF tab ∧ plainSh (List.map kindOfV tab) = true ∨ ∀ (i : Nat), i < 1 → rowOb (List.map kindOfV tab) 0 (tabF tab i) (tabF tab i),
 nb = nb,
 lk = lk2,
 IntKind.i64.wrap (th + 1) = th2,
 al = al,
 0 = at2,
 -1 = wt2,
 en = en2,
 IntKind.i64.wrap (S.st + 1) = (mLoad S 8 th 6).st,
 (1 : Int) = 1,
 (8 : Int) = 8,
 th = (mLoad S 8 th 6).L.a,
 (6 : Int) = 6,
 mget S.M (key 8 th 6) = (mLoad S 8 th 6).L.w,
 mget S.M (key 8 th 6) = (mLoad S 8 th 6).L.i,
 false = (mLoad S 8 th 6).L.d,
 ∀ (k : List Int), S.M k = S.M k,
 decide (IntKind.i64.wrap (th + 1) ≥ al) = true,
 (mget S.M (key 8 th 6) != 0) = true,
 ((6 : Int) == (6 : Int)) = true,
 ((6 : Int) == (2 : Int)) = false,
 Nat.blt 0 1 = true,
 Nat.blt 0 1 = true]) := by kernel_rfl
theorem bs3o_loc (nb lk th al wt en lk2 th2 at2 wt2 en2 : Int) (S : MS) (FT : Nat → Nat → AV) : LocOk Tryd.prog 11 [.ptr 1 0 0, .ptr 2 0 0] (bs3oH nb lk th al wt en lk2 th2 at2 wt2 en2 S FT) (bs3oR nb lk th al wt en lk2 th2 at2 wt2 en2 S FT) := by
  refine loc_of_call EBs_ok (fun hp => ?_)
  have hFT : FT = tabF tab := hp _ (List.mem_cons_self ..)
  have hp1 : 0 ≤ th ∧ th < al ∧ al ≤ 16 ∧ 1 ≤ lk ∧ lk ≤ 1000 := hp _ (List.mem_cons_of_mem _ (List.mem_cons_self ..))
  have hb1 : (mget S.M (key 8 th 6) != 0) = true := hp _ (List.mem_cons_of_mem _ (List.mem_cons_of_mem _ (List.mem_cons_self ..)))
  have hc : ¬ th + 1 < al := hp _ (List.mem_cons_of_mem _ (List.mem_cons_of_mem _ (List.mem_cons_of_mem _ (List.mem_cons_self ..))))
  have q1 : lk = lk2 := hp _ (List.mem_cons_of_mem _ (List.mem_cons_of_mem _ (List.mem_cons_of_mem _ (List.mem_cons_of_mem _ (List.mem_cons_self ..)))))
  have q2 : th + 1 = th2 := hp _ (List.mem_cons_of_mem _ (List.mem_cons_of_mem _ (List.mem_cons_of_mem _ (List.mem_cons_of_mem _ (List.mem_cons_of_mem _ (List.mem_cons_self ..))))))
  have q3 : (0 : Int) = at2 := hp _ (List.mem_cons_of_mem _ (List.mem_cons_of_mem _ (List.mem_cons_of_mem _ (List.mem_cons_of_mem _ (List.mem_cons_of_mem _ (List.mem_cons_of_mem _ (List.mem_cons_self ..)))))))
  have q4 : -1 = wt2 := hp _ (List.mem_cons_of_mem _ (List.mem_cons_of_mem _ (List.mem_cons_of_mem _ (List.mem_cons_of_mem _ (List.mem_cons_of_mem _ (List.mem_cons_of_mem _ (List.mem_cons_of_mem _ (List.mem_cons_self ..))))))))
  have q5 : en = en2 := hp _ (List.mem_cons_of_mem _ (List.mem_cons_of_mem _ (List.mem_cons_of_mem _ (List.mem_cons_of_mem _ (List.mem_cons_of_mem _ (List.mem_cons_of_mem _ (List.mem_cons_of_mem _ (List.mem_cons_of_mem _ (List.mem_cons_self ..)))))))))
  clear hp
  subst hFT
  have hw1 : IntKind.i64.wrap (th + 1) = th + 1 := i64w (by omega) (by omega)
  have hb2 : decide (IntKind.i64.wrap (th + 1) ≥ al) = true := by rw [hw1]; exact decide_eq_true (by omega)
  have hw2 : IntKind.i64.wrap (th + 1) = th2 := by rw [hw1]; exact q2
  refine ⟨4000, _, _, _, bs3o_1 .., (ob_cons rfl (ob_cons (Nat.le_refl _) (ob_cons (.inl ⟨rfl, rfl⟩) (ob_cons rfl (ob_cons ?_ (ob_cons ?_ (ob_cons rfl (ob_cons ?_ (ob_cons ?_ (ob_cons ?_ (ob_cons ?_ (ob_cons rfl (ob_cons rfl (ob_cons ?_ (ob_cons rfl (ob_cons ?_ (ob_cons ?_ (ob_cons ?_ (ob_cons (fun _ => rfl) (ob_cons ?_ (ob_cons ?_ (ob_cons ?_ (ob_cons ?_ (ob_cons rfl (ob_cons rfl ob_nil)))))))))))))))))))))))))⟩
  · exact q1
  · omega
  · exact q3
  · exact q4
  · exact q5
  · exact rfl
  · exact rfl
  · exact rfl
  · exact rfl
  · exact rfl
  · exact hb2
  · exact hb1
  · exact rfl
  · exact rfl
theorem bs3f_1 (nb lk th al wt en lk2 th2 at2 wt2 en2 : Int) (S : MS) : callB EBs 4000 11 [AV.ptr 1 0 0, AV.ptr 2 0 0] (bs3fH nb lk th al wt en lk2 th2 at2 wt2 en2 S (tabF tab)) (bs3fR nb lk th al wt en lk2 th2 at2 wt2 en2 S (tabF tab)) [] [Hint.node [(20, [Hint.b false, Hint.b true])], Hint.b false, Hint.node [], Hint.b true, Hint.node [], Hint.b false] =
 some ([true = true,
 (1 : Nat) ≤ (1 : Nat),
 tabF tab = tabF tab ∧ plainSh (List.map kindOfV tab) = true ∨ ∀ (i : Nat), i < 1 → rowOb (List.map kindOfV tab) 0 (tabF tab i) (tabF tab i),
 nb = nb,
 IntKind.i64.wrap (lk - 1) = lk2,
 th = th2,
 al = al,
 0 = at2,
 th = wt2,
 en = en2,
 IntKind.i64.wrap (S.st + 1) = (mLoad S 8 th 6).st,
 (1 : Int) = 1,
 (8 : Int) = 8,
 th = (mLoad S 8 th 6).L.a,
 (6 : Int) = 6,
 mget S.M (key 8 th 6) = (mLoad S 8 th 6).L.w,
 mget S.M (key 8 th 6) = (mLoad S 8 th 6).L.i,
 false = (mLoad S 8 th 6).L.d,
 ∀ (k : List Int), S.M k = S.M k,
 decide (th ≥ al) = false,
 decide (IntKind.i64.wrap (lk - 1) > 0) = true,
 (mget S.M (key 8 th 6) != 0) = false,
 ((6 : Int) == (6 : Int)) = true,
 ((6 : Int) == (2 : Int)) = false,
 Nat.blt 0 1 = true,
 Nat.blt 0 1 = true]) := by kernel_rfl
theorem bs3f_loc (nb lk th al wt en lk2 th2 at2 wt2 en2 : Int) (S : MS) (FT : Nat → Nat → AV) : LocOk Tryd.prog 11 [.ptr 1 0 0, .ptr 2 0 0] (bs3fH nb lk th al wt en lk2 th2 at2 wt2 en2 S FT) (bs3fR nb lk th al wt en lk2 th2 at2 wt2 en2 S FT) := by
  refine loc_of_call EBs_ok (fun hp => ?_)
  have hFT : FT = tabF tab := hp _ (List.mem_cons_self ..)
  have hp1 : 0 ≤ th ∧ th < al ∧ al ≤ 16 ∧ 1 ≤ lk ∧ lk ≤ 1000 := hp _ (List.mem_cons_of_mem _ (List.mem_cons_self ..))
  have hb1 : (mget S.M (key 8 th 6) != 0) = false := hp _ (List.mem_cons_of_mem _ (List.mem_cons_of_mem _ (List.mem_cons_self ..)))
  have hc : 1 < lk := hp _ (List.mem_cons_of_mem _ (List.mem_cons_of_mem _ (List.mem_cons_of_mem _ (List.mem_cons_self ..))))
  have q1 : lk - 1 = lk2 := hp _ (List.mem_cons_of_mem _ (List.mem_cons_of_mem _ (List.mem_cons_of_mem _ (List.mem_cons_of_mem _ (List.mem_cons_self ..)))))
  have q2 : th = th2 := hp _ (List.mem_cons_of_mem _ (List.mem_cons_of_mem _ (List.mem_cons_of_mem _ (List.mem_cons_of_mem _ (List.mem_cons_of_mem _ (List.mem_cons_self ..))))))
  have q3 : (0 : Int) = at2 := hp _ (List.mem_cons_of_mem _ (List.mem_cons_of_mem _ (List.mem_cons_of_mem _ (List.mem_cons_of_mem _ (List.mem_cons_of_mem _ (List.mem_cons_of_mem _ (List.mem_cons_self ..)))))))
  have q4 : th = wt2 := hp _ (List.mem_cons_of_mem _ (List.mem_cons_of_mem _ (List.mem_cons_of_mem _ (List.mem_cons_of_mem _ (List.mem_cons_of_mem _ (List.mem_cons_of_mem _ (List.mem_cons_of_mem _ (List.mem_cons_self ..))))))))
  have q5 : en = en2 := hp _ (List.mem_cons_of_mem _ (List.mem_cons_of_mem _ (List.mem_cons_of_mem _ (List.mem_cons_of_mem _ (List.mem_cons_of_mem _ (List.mem_cons_of_mem _ (List.mem_cons_of_mem _ (List.mem_cons_of_mem _ (List.mem_cons_self ..)))))))))
  clear hp
  subst hFT
  have hw1 : IntKind.i64.wrap (lk - 1) = lk - 1 := i64w (by omega) (by omega)
  have hw2 : IntKind.i64.wrap (lk - 1) = lk2 := by rw [hw1]; exact q1
  have hb2 : decide (IntKind.i64.wrap (lk - 1) > 0) = true := by rw [hw1]; exact decide_eq_true (by omega)
  have hb3 : decide (th ≥ al) = false := decide_eq_false (by omega)
  refine ⟨4000, _, _, _, bs3f_1 .., (ob_cons rfl (ob_cons (Nat.le_refl _) (ob_cons (.inl ⟨rfl, rfl⟩) (ob_cons rfl (ob_cons ?_ (ob_cons ?_ (ob_cons rfl (ob_cons ?_ (ob_cons ?_ (ob_cons ?_ (ob_cons ?_ (ob_cons rfl (ob_cons rfl (ob_cons ?_ (ob_cons rfl (ob_cons ?_ (ob_cons ?_ (ob_cons ?_ (ob_cons (fun _ => rfl) (ob_cons ?_ (ob_cons ?_ (ob_cons ?_ (ob_cons ?_ (ob_cons ?_ (ob_cons rfl (ob_cons rfl ob_nil))))))))))))))))))))))))))⟩
  · omega
  · exact q2
  · exact q3
  · exact q4
  · exact q5
  · exact rfl
  · exact rfl
  · exact rfl
  · exact rfl
  · exact rfl
  · exact hb3
  · exact hb2
  · exact hb1
  · exact rfl
  · exact rfl
theorem bs3g_1 (nb lk th al wt en lk2 th2 at2 wt2 en2 : Int) (S : MS) : callB EBs 4000 11 [AV.ptr 1 0 0, AV.ptr 2 0 0] (bs3gH nb lk th al wt en lk2 th2 at2 wt2 en2 S (tabF tab)) (bs3gR nb lk th al wt en lk2 th2 at2 wt2 en2 S (tabF tab)) [] [Hint.node [(20, [Hint.b false, Hint.b true])], Hint.b false, Hint.node [], Hint.b false] =
 some ([true = true,
 (1 : Nat) ≤ (1 : Nat),
 tabF tab = tabF tab ∧ plainSh (List.map kindOfV tab) = true ∨ ∀ (i : Nat), i < 1 → rowOb (List.map kindOfV tab) 0 (tabF tab i) (tabF tab i),
 nb = nb,
 IntKind.i64.wrap (lk - 1) = lk2,
 th = th2,
 al = al,
 0 = at2,
 th = wt2,
 9 = en2,
 IntKind.i64.wrap (S.st + 1) = (mLoad S 8 th 6).st,
 (1 : Int) = 1,
 (8 : Int) = 8,
 th = (mLoad S 8 th 6).L.a,
 (6 : Int) = 6,
 mget S.M (key 8 th 6) = (mLoad S 8 th 6).L.w,
 mget S.M (key 8 th 6) = (mLoad S 8 th 6).L.i,
 false = (mLoad S 8 th 6).L.d,
 ∀ (k : List Int), S.M k = S.M k,
 decide (IntKind.i64.wrap (lk - 1) > 0) = false,
 (mget S.M (key 8 th 6) != 0) = false,
 ((6 : Int) == (6 : Int)) = true,
 ((6 : Int) == (2 : Int)) = false,
 Nat.blt 0 1 = true,
 Nat.blt 0 1 = true]) := by kernel_rfl
theorem bs3g_loc (nb lk th al wt en lk2 th2 at2 wt2 en2 : Int) (S : MS) (FT : Nat → Nat → AV) : LocOk Tryd.prog 11 [.ptr 1 0 0, .ptr 2 0 0] (bs3gH nb lk th al wt en lk2 th2 at2 wt2 en2 S FT) (bs3gR nb lk th al wt en lk2 th2 at2 wt2 en2 S FT) := by
  refine loc_of_call EBs_ok (fun hp => ?_)
  have hFT : FT = tabF tab := hp _ (List.mem_cons_self ..)
  have hp1 : 0 ≤ th ∧ th < al ∧ al ≤ 16 ∧ 1 ≤ lk ∧ lk ≤ 1000 := hp _ (List.mem_cons_of_mem _ (List.mem_cons_self ..))
  have hb1 : (mget S.M (key 8 th 6) != 0) = false := hp _ (List.mem_cons_of_mem _ (List.mem_cons_of_mem _ (List.mem_cons_self ..)))
  have hc : ¬ 1 < lk := hp _ (List.mem_cons_of_mem _ (List.mem_cons_of_mem _ (List.mem_cons_of_mem _ (List.mem_cons_self ..))))
  have q1 : lk - 1 = lk2 := hp _ (List.mem_cons_of_mem _ (List.mem_cons_of_mem _ (List.mem_cons_of_mem _ (List.mem_cons_of_mem _ (List.mem_cons_self ..)))))
  have q2 : th = th2 := hp _ (List.mem_cons_of_mem _ (List.mem_cons_of_mem _ (List.mem_cons_of_mem _ (List.mem_cons_of_mem _ (List.mem_cons_of_mem _ (List.mem_cons_self ..))))))
  have q3 : (0 : Int) = at2 := hp _ (List.mem_cons_of_mem _ (List.mem_cons_of_mem _ (List.mem_cons_of_mem _ (List.mem_cons_of_mem _ (List.mem_cons_of_mem _ (List.mem_cons_of_mem _ (List.mem_cons_self ..)))))))
  have q4 : th = wt2 := hp _ (List.mem_cons_of_mem _ (List.mem_cons_of_mem _ (List.mem_cons_of_mem _ (List.mem_cons_of_mem _ (List.mem_cons_of_mem _ (List.mem_cons_of_mem _ (List.mem_cons_of_mem _ (List.mem_cons_self ..))))))))
  have q5 : 9 = en2 := hp _ (List.mem_cons_of_mem _ (List.mem_cons_of_mem _ (List.mem_cons_of_mem _ (List.mem_cons_of_mem _ (List.mem_cons_of_mem _ (List.mem_cons_of_mem _ (List.mem_cons_of_mem _ (List.mem_cons_of_mem _ (List.mem_cons_self ..)))))))))
  clear hp
  subst hFT
  have hw1 : IntKind.i64.wrap (lk - 1) = lk - 1 := i64w (by omega) (by omega)
  have hw2 : IntKind.i64.wrap (lk - 1) = lk2 := by rw [hw1]; exact q1
  have hb2 : decide (IntKind.i64.wrap (lk - 1) > 0) = false := by rw [hw1]; exact decide_eq_false (by omega)
  refine ⟨4000, _, _, _, bs3g_1 .., (ob_cons rfl (ob_cons (Nat.le_refl _) (ob_cons (.inl ⟨rfl, rfl⟩) (ob_cons rfl (ob_cons ?_ (ob_cons ?_ (ob_cons rfl (ob_cons ?_ (ob_cons ?_ (ob_cons ?_ (ob_cons ?_ (ob_cons rfl (ob_cons rfl (ob_cons ?_ (ob_cons rfl (ob_cons ?_ (ob_cons ?_ (ob_cons ?_ (ob_cons (fun _ => rfl) (ob_cons ?_ (ob_cons ?_ (ob_cons ?_ (ob_cons ?_ (ob_cons rfl (ob_cons rfl ob_nil)))))))))))))))))))))))))⟩
  · omega
  · exact q2
  · exact q3
  · exact q4
  · exact q5
  · exact rfl
  · exact rfl
  · exact rfl
  · exact rfl
  · exact rfl
  · exact hb2
  · exact hb1
  · exact rfl
  · exact rfl
end Go.Proofs.YtmlfmmnnbdlabaaDoor
