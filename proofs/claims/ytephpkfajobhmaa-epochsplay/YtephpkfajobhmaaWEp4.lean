/-
  EpochsPlay: steps.
-/
import Derived.Test.YtephpkfajobhmaaWEp3Def
set_option linter.unusedSimpArgs false
set_option linter.unusedVariables false
namespace Go.Proofs.Ytephpkfajobhmaa
open Go.Ev
theorem epa3d_1 (e th t2 b : Int) (mv : Bool) (S : MS) (n l : Nat) (g : Nat → Nat → AV) (s2 : Int) (L2 : LS) : callB EEp 3000 65 [AV.agg [AV.nilp, AV.nilp, AV.ptr 1 0 0, AV.ptr 2 0 0], AV.agg [AV.ptr 3 0 0, AV.ptr 5 0 0]] (epa3dH e th t2 b mv S n l g s2 L2) (epa3dR e th t2 b mv S n l g s2 L2) [(7, Src.nm 6)] [Hint.b false, Hint.b true, Hint.node [(4, [Hint.b false, Hint.b true])]] =
 some ([((mv == mv) == true) = true,
 e = e,
 IntKind.i64.wrap (th + 1) = th + 1,
 4 * b = 4 * b,
 mv = mv,
 IntKind.i64.wrap (th + 1) = th + 1,
 mv = mv,
 e = e,
 b = b,
 IntKind.i64.wrap (S.st + 1) = (mLoad S 8 th 3).st,
 (1 : Int) = 1,
 (8 : Int) = 8,
 th = (mLoad S 8 th 3).L.a,
 (3 : Int) = 3,
 mget S.M (key 8 th 3) = (mLoad S 8 th 3).L.w,
 mget S.M (key 8 th 3) = (mLoad S 8 th 3).L.i,
 false = (mLoad S 8 th 3).L.d,
 ∀ (k : List Int), S.M k = (mLoad S 8 th 3).M k,
 (0 : Nat) = 0,
 n = (rLoad (mkR n g s2 L2) 8 th 3).D.n,
 (none : Option Nat) = none,
 IntKind.i64.wrap (s2 + 1) = (rLoad (mkR n g s2 L2) 8 th 3).st,
 (1 : Int) = 1,
 (8 : Int) = 8,
 th = (rLoad (mkR n g s2 L2) 8 th 3).L.a,
 (3 : Int) = 3,
 dWord (dOf n g) 8 th 3 = (rLoad (mkR n g s2 L2) 8 th 3).L.w,
 dWord (dOf n g) 8 th 3 = (rLoad (mkR n g s2 L2) 8 th 3).L.i,
 false = (rLoad (mkR n g s2 L2) 8 th 3).L.d,
 false = false,
 (rLoad (mkR n g s2 L2) 8 th 3).D.n ≤ l,
 wdF (rLoad (mkR n g s2 L2) 8 th 3).D.W = g ∧ plainSh wSh = true ∨ ∀ (i : Nat), i < (rLoad (mkR n g s2 L2) 8 th 3).D.n → rowOb wSh 0 (g i) (wdF (rLoad (mkR n g s2 L2) 8 th 3).D.W i),
 decide (IntKind.i64.wrap (th + 1) ≥ 4 * b) = true,
 (IntKind.u64.wrap ↑(BitVec.ofInt 64 (mget S.M (key 8 th 3)) &&& BitVec.ofInt 64 1).toNat == 1) = false,
 (IntKind.i64.wrap (th + 1) == IntKind.i64.wrap (4 * IntKind.i64.wrap b)) = true,
 ((dWord (dOf n g) 8 th 3).tmod 2 == 1) = false,
 n ≤ l,
 n ≤ 1000000]) := by kernel_rfl
theorem epa3d_loc (e th t2 b : Int) (mv : Bool) (S : MS) (n l : Nat) (g : Nat → Nat → AV) (s2 : Int) (L2 : LS) : LocOk Try.prog 65 [.agg [.nilp, .nilp, .ptr 1 0 0, .ptr 2 0 0], .agg [.ptr 3 0 0, .ptr 5 0 0]] (epa3dH e th t2 b mv S n l g s2 L2) (epa3dR e th t2 b mv S n l g s2 L2) := by
  refine loc_of_call EEp_ok (fun hp => ?_)
  have hl : n ≤ l := hp _ (List.mem_cons_self ..)
  have hm : n ≤ 100000 := hp _ (List.mem_cons_of_mem _ (List.mem_cons_self ..))
  have hb : Both S (mkR n g s2 L2) := hp _ (List.mem_cons_of_mem _ (List.mem_cons_of_mem _ (List.mem_cons_self ..)))
  have hu : ∀ k, 0 ≤ mget S.M k ∧ mget S.M k < 18446744073709551616 := hp _ (List.mem_cons_of_mem _ (List.mem_cons_of_mem _ (List.mem_cons_of_mem _ (List.mem_cons_self ..))))
  have he : 0 ≤ e ∧ e < 18446744073709551616 := hp _ (List.mem_cons_of_mem _ (List.mem_cons_of_mem _ (List.mem_cons_of_mem _ (List.mem_cons_of_mem _ (List.mem_cons_self ..)))))
  have ht : 0 ≤ th ∧ th < 4 * b ∧ b ≤ 4 := hp _ (List.mem_cons_of_mem _ (List.mem_cons_of_mem _ (List.mem_cons_of_mem _ (List.mem_cons_of_mem _ (List.mem_cons_of_mem _ (List.mem_cons_self ..))))))
  have hc : mget S.M (key 8 th 3) % 2 = 0 ∧ th + 1 = 4 * b := hp _ (List.mem_cons_of_mem _ (List.mem_cons_of_mem _ (List.mem_cons_of_mem _ (List.mem_cons_of_mem _ (List.mem_cons_of_mem _ (List.mem_cons_of_mem _ (List.mem_cons_self ..)))))))
  clear hp
  have hw := hu (key 8 th 3)
  have w1 : dWord (dOf n g) 8 th 3 = mget S.M (key 8 th 3) := (hb.agr _ _ _).symm
  have w2 := and_1 hw.1 hw.2
  have w3 : (mget S.M (key 8 th 3)).tmod 2 = mget S.M (key 8 th 3) % 2 := Int.tmod_eq_emod_of_nonneg hw.1
  have w4 : IntKind.u64.wrap (mget S.M (key 8 th 3) % 2) = mget S.M (key 8 th 3) % 2 := u64w (by omega) (by omega)
  have w5 : IntKind.i64.wrap b = b := i64w (by omega) (by omega)
  have w6 : IntKind.i64.wrap (4 * b) = 4 * b := i64w (by omega) (by omega)
  have w7 : IntKind.i64.wrap (th + 1) = th + 1 := i64w (by omega) (by omega)
  have w8 := in_raw he.1 he.2
  have w9 : IntKind.u64.wrap (IntKind.u64.wrap (2 * e) + 1) = inE e := rfl
  refine ⟨3000, _, _, _, epa3d_1 .., (ob_cons ?_ (ob_cons rfl (ob_cons ?_ (ob_cons rfl (ob_cons rfl (ob_cons ?_ (ob_cons rfl (ob_cons rfl (ob_cons rfl (ob_cons ?_ (ob_cons rfl (ob_cons rfl (ob_cons ?_ (ob_cons rfl (ob_cons ?_ (ob_cons ?_ (ob_cons ?_ (ob_cons ?_ (ob_cons rfl (ob_cons ?_ (ob_cons rfl (ob_cons ?_ (ob_cons rfl (ob_cons rfl (ob_cons ?_ (ob_cons rfl (ob_cons ?_ (ob_cons ?_ (ob_cons ?_ (ob_cons rfl (ob_cons ?_ (ob_cons ?_ (ob_cons ?_ (ob_cons ?_ (ob_cons ?_ (ob_cons ?_ (ob_cons ?_ (ob_cons ?_ ob_nil))))))))))))))))))))))))))))))))))))))⟩
  · (simp; done)
  · omega
  · omega
  · exact rfl
  · exact rfl
  · exact rfl
  · exact rfl
  · exact rfl
  · exact fun _ => rfl
  · exact rfl
  · exact rfl
  · exact rfl
  · exact rfl
  · exact rfl
  · exact rfl
  · exact hl
  · exact .inr (fun i hi => row_wd rfl)
  · (simp only [w1, w2, w3, w4, w5, w6, w7, w8, w9]; first | done | omega | exact decide_eq_true (by omega) | exact decide_eq_false (by omega) | (simp; omega) | (simp [hc]; done) | (simp [hc]; omega))
  · (simp only [w1, w2, w3, w4, w5, w6, w7, w8, w9]; first | done | omega | exact decide_eq_true (by omega) | exact decide_eq_false (by omega) | (simp; omega) | (simp [hc]; done) | (simp [hc]; omega))
  · (simp only [w1, w2, w3, w4, w5, w6, w7, w8, w9]; first | done | omega | exact decide_eq_true (by omega) | exact decide_eq_false (by omega) | (simp; omega) | (simp [hc]; done) | (simp [hc]; omega))
  · (simp only [w1, w2, w3, w4, w5, w6, w7, w8, w9]; first | done | omega | exact decide_eq_true (by omega) | exact decide_eq_false (by omega) | (simp; omega) | (simp [hc]; done) | (simp [hc]; omega))
  · exact hl
  · omega
theorem epa3e_1 (e th t2 b : Int) (mv : Bool) (S : MS) (n l : Nat) (g : Nat → Nat → AV) (s2 : Int) (L2 : LS) : callB EEp 3000 65 [AV.agg [AV.nilp, AV.nilp, AV.ptr 1 0 0, AV.ptr 2 0 0], AV.agg [AV.ptr 3 0 0, AV.ptr 5 0 0]] (epa3eH e th t2 b mv S n l g s2 L2) (epa3eR e th t2 b mv S n l g s2 L2) [(7, Src.nm 6)] [Hint.b false, Hint.b false, Hint.node [(4, [Hint.b false, Hint.b false])]] =
 some ([((mv == mv) == true) = true,
 e = e,
 IntKind.i64.wrap (th + 1) = th + 1,
 4 * b = 4 * b,
 mv = mv,
 IntKind.i64.wrap (th + 1) = th + 1,
 mv = mv,
 e = e,
 b = b,
 IntKind.i64.wrap (S.st + 1) = (mLoad S 8 th 3).st,
 (1 : Int) = 1,
 (8 : Int) = 8,
 th = (mLoad S 8 th 3).L.a,
 (3 : Int) = 3,
 mget S.M (key 8 th 3) = (mLoad S 8 th 3).L.w,
 mget S.M (key 8 th 3) = (mLoad S 8 th 3).L.i,
 false = (mLoad S 8 th 3).L.d,
 ∀ (k : List Int), S.M k = (mLoad S 8 th 3).M k,
 (0 : Nat) = 0,
 n = (rLoad (mkR n g s2 L2) 8 th 3).D.n,
 (none : Option Nat) = none,
 IntKind.i64.wrap (s2 + 1) = (rLoad (mkR n g s2 L2) 8 th 3).st,
 (1 : Int) = 1,
 (8 : Int) = 8,
 th = (rLoad (mkR n g s2 L2) 8 th 3).L.a,
 (3 : Int) = 3,
 dWord (dOf n g) 8 th 3 = (rLoad (mkR n g s2 L2) 8 th 3).L.w,
 dWord (dOf n g) 8 th 3 = (rLoad (mkR n g s2 L2) 8 th 3).L.i,
 false = (rLoad (mkR n g s2 L2) 8 th 3).L.d,
 false = false,
 (rLoad (mkR n g s2 L2) 8 th 3).D.n ≤ l,
 wdF (rLoad (mkR n g s2 L2) 8 th 3).D.W = g ∧ plainSh wSh = true ∨ ∀ (i : Nat), i < (rLoad (mkR n g s2 L2) 8 th 3).D.n → rowOb wSh 0 (g i) (wdF (rLoad (mkR n g s2 L2) 8 th 3).D.W i),
 decide (IntKind.i64.wrap (th + 1) ≥ 4 * b) = false,
 (IntKind.u64.wrap ↑(BitVec.ofInt 64 (mget S.M (key 8 th 3)) &&& BitVec.ofInt 64 1).toNat == 1) = false,
 (IntKind.i64.wrap (th + 1) == IntKind.i64.wrap (4 * IntKind.i64.wrap b)) = false,
 ((dWord (dOf n g) 8 th 3).tmod 2 == 1) = false,
 n ≤ l,
 n ≤ 1000000]) := by kernel_rfl
theorem epa3e_loc (e th t2 b : Int) (mv : Bool) (S : MS) (n l : Nat) (g : Nat → Nat → AV) (s2 : Int) (L2 : LS) : LocOk Try.prog 65 [.agg [.nilp, .nilp, .ptr 1 0 0, .ptr 2 0 0], .agg [.ptr 3 0 0, .ptr 5 0 0]] (epa3eH e th t2 b mv S n l g s2 L2) (epa3eR e th t2 b mv S n l g s2 L2) := by
  refine loc_of_call EEp_ok (fun hp => ?_)
  have hl : n ≤ l := hp _ (List.mem_cons_self ..)
  have hm : n ≤ 100000 := hp _ (List.mem_cons_of_mem _ (List.mem_cons_self ..))
  have hb : Both S (mkR n g s2 L2) := hp _ (List.mem_cons_of_mem _ (List.mem_cons_of_mem _ (List.mem_cons_self ..)))
  have hu : ∀ k, 0 ≤ mget S.M k ∧ mget S.M k < 18446744073709551616 := hp _ (List.mem_cons_of_mem _ (List.mem_cons_of_mem _ (List.mem_cons_of_mem _ (List.mem_cons_self ..))))
  have he : 0 ≤ e ∧ e < 18446744073709551616 := hp _ (List.mem_cons_of_mem _ (List.mem_cons_of_mem _ (List.mem_cons_of_mem _ (List.mem_cons_of_mem _ (List.mem_cons_self ..)))))
  have ht : 0 ≤ th ∧ th < 4 * b ∧ b ≤ 4 := hp _ (List.mem_cons_of_mem _ (List.mem_cons_of_mem _ (List.mem_cons_of_mem _ (List.mem_cons_of_mem _ (List.mem_cons_of_mem _ (List.mem_cons_self ..))))))
  have hc : mget S.M (key 8 th 3) % 2 = 0 ∧ th + 1 < 4 * b := hp _ (List.mem_cons_of_mem _ (List.mem_cons_of_mem _ (List.mem_cons_of_mem _ (List.mem_cons_of_mem _ (List.mem_cons_of_mem _ (List.mem_cons_of_mem _ (List.mem_cons_self ..)))))))
  clear hp
  have hw := hu (key 8 th 3)
  have w1 : dWord (dOf n g) 8 th 3 = mget S.M (key 8 th 3) := (hb.agr _ _ _).symm
  have w2 := and_1 hw.1 hw.2
  have w3 : (mget S.M (key 8 th 3)).tmod 2 = mget S.M (key 8 th 3) % 2 := Int.tmod_eq_emod_of_nonneg hw.1
  have w4 : IntKind.u64.wrap (mget S.M (key 8 th 3) % 2) = mget S.M (key 8 th 3) % 2 := u64w (by omega) (by omega)
  have w5 : IntKind.i64.wrap b = b := i64w (by omega) (by omega)
  have w6 : IntKind.i64.wrap (4 * b) = 4 * b := i64w (by omega) (by omega)
  have w7 : IntKind.i64.wrap (th + 1) = th + 1 := i64w (by omega) (by omega)
  have w8 := in_raw he.1 he.2
  have w9 : IntKind.u64.wrap (IntKind.u64.wrap (2 * e) + 1) = inE e := rfl
  refine ⟨3000, _, _, _, epa3e_1 .., (ob_cons ?_ (ob_cons rfl (ob_cons ?_ (ob_cons rfl (ob_cons rfl (ob_cons ?_ (ob_cons rfl (ob_cons rfl (ob_cons rfl (ob_cons ?_ (ob_cons rfl (ob_cons rfl (ob_cons ?_ (ob_cons rfl (ob_cons ?_ (ob_cons ?_ (ob_cons ?_ (ob_cons ?_ (ob_cons rfl (ob_cons ?_ (ob_cons rfl (ob_cons ?_ (ob_cons rfl (ob_cons rfl (ob_cons ?_ (ob_cons rfl (ob_cons ?_ (ob_cons ?_ (ob_cons ?_ (ob_cons rfl (ob_cons ?_ (ob_cons ?_ (ob_cons ?_ (ob_cons ?_ (ob_cons ?_ (ob_cons ?_ (ob_cons ?_ (ob_cons ?_ ob_nil))))))))))))))))))))))))))))))))))))))⟩
  · (simp; done)
  · omega
  · omega
  · exact rfl
  · exact rfl
  · exact rfl
  · exact rfl
  · exact rfl
  · exact fun _ => rfl
  · exact rfl
  · exact rfl
  · exact rfl
  · exact rfl
  · exact rfl
  · exact rfl
  · exact hl
  · exact .inr (fun i hi => row_wd rfl)
  · (simp only [w1, w2, w3, w4, w5, w6, w7, w8, w9]; first | done | omega | exact decide_eq_true (by omega) | exact decide_eq_false (by omega) | (simp; omega) | (simp [hc]; done) | (simp [hc]; omega))
  · (simp only [w1, w2, w3, w4, w5, w6, w7, w8, w9]; first | done | omega | exact decide_eq_true (by omega) | exact decide_eq_false (by omega) | (simp; omega) | (simp [hc]; done) | (simp [hc]; omega))
  · (simp only [w1, w2, w3, w4, w5, w6, w7, w8, w9]; first | done | omega | exact decide_eq_true (by omega) | exact decide_eq_false (by omega) | (simp; omega) | (simp [hc]; done) | (simp [hc]; omega))
  · (simp only [w1, w2, w3, w4, w5, w6, w7, w8, w9]; first | done | omega | exact decide_eq_true (by omega) | exact decide_eq_false (by omega) | (simp; omega) | (simp [hc]; done) | (simp [hc]; omega))
  · exact hl
  · omega
end Go.Proofs.Ytephpkfajobhmaa
