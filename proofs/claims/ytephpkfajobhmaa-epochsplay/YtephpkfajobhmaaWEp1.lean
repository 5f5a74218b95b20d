/-
  EpochsPlay: steps.
-/
import Derived.Test.YtephpkfajobhmaaWEp1Def
set_option linter.unusedSimpArgs false
set_option linter.unusedVariables false
namespace Go.Proofs.Ytephpkfajobhmaa
open Go.Ev
theorem epa2a_2 (e th t2 b : Int) (mv : Bool) (S : MS) (n l : Nat) (g : Nat → Nat → AV) (s2 : Int) (L2 : LS) : callB EEp 3000 65 [AV.agg [AV.nilp, AV.nilp, AV.ptr 1 0 0, AV.ptr 2 0 0], AV.agg [AV.ptr 3 0 0, AV.ptr 5 0 0]] (epa2aH e th t2 b mv S n l g s2 L2) (epa2aR e th t2 b mv S n l g s2 L2) [(7, Src.nm 6)] [Hint.b true, Hint.node [(4, [Hint.b false])], Hint.node [(4, [Hint.node [], Hint.b false])]] =
 some ([((mv == mv) == true) = true,
 e = e,
 IntKind.i64.wrap (IntKind.i64.wrap (if 4 < mget S.M (key 5 0 0) then 4 else mget S.M (key 5 0 0)) * 4) = 16,
 mv = mv,
 mv = mv,
 e = e,
 (4 : Int) = 4,
 IntKind.i64.wrap (S.st + 1) = (mLoad S 5 0 0).st,
 (1 : Int) = 1,
 (5 : Int) = 5,
 (0 : Int) = 0,
 (0 : Int) = 0,
 mget S.M (key 5 0 0) = (mLoad S 5 0 0).L.w,
 mget S.M (key 5 0 0) = (mLoad S 5 0 0).L.i,
 false = (mLoad S 5 0 0).L.d,
 ∀ (k : List Int), S.M k = (mLoad S 5 0 0).M k,
 (0 : Nat) = 0,
 n = (rLoad (mkR n g s2 L2) 5 0 0).D.n,
 (none : Option Nat) = none,
 IntKind.i64.wrap (s2 + 1) = (rLoad (mkR n g s2 L2) 5 0 0).st,
 (1 : Int) = 1,
 (5 : Int) = 5,
 (0 : Int) = 0,
 (0 : Int) = 0,
 dWord (dOf n g) 5 0 0 = (rLoad (mkR n g s2 L2) 5 0 0).L.w,
 dWord (dOf n g) 5 0 0 = (rLoad (mkR n g s2 L2) 5 0 0).L.i,
 false = (rLoad (mkR n g s2 L2) 5 0 0).L.d,
 false = false,
 (rLoad (mkR n g s2 L2) 5 0 0).D.n ≤ l,
 wdF (rLoad (mkR n g s2 L2) 5 0 0).D.W = g ∧ plainSh wSh = true ∨ ∀ (i : Nat), i < (rLoad (mkR n g s2 L2) 5 0 0).D.n → rowOb wSh 0 (g i) (wdF (rLoad (mkR n g s2 L2) 5 0 0).D.W i),
 decide (0 ≥ IntKind.i64.wrap (IntKind.i64.wrap (if 4 < mget S.M (key 5 0 0) then 4 else mget S.M (key 5 0 0)) * 4)) = false,
 decide (dWord (dOf n g) 5 0 0 > 4) = true,
 n ≤ l,
 n ≤ 1000000]) := by kernel_rfl
theorem epa2a_loc (e th t2 b : Int) (mv : Bool) (S : MS) (n l : Nat) (g : Nat → Nat → AV) (s2 : Int) (L2 : LS) : LocOk Try.prog 65 [.agg [.nilp, .nilp, .ptr 1 0 0, .ptr 2 0 0], .agg [.ptr 3 0 0, .ptr 5 0 0]] (epa2aH e th t2 b mv S n l g s2 L2) (epa2aR e th t2 b mv S n l g s2 L2) := by
  refine loc_of_call EEp_ok (fun hp => ?_)
  have hl : n ≤ l := hp _ (List.mem_cons_self ..)
  have hm : n ≤ 100000 := hp _ (List.mem_cons_of_mem _ (List.mem_cons_self ..))
  have hb : Both S (mkR n g s2 L2) := hp _ (List.mem_cons_of_mem _ (List.mem_cons_of_mem _ (List.mem_cons_self ..)))
  have hu : ∀ k, 0 ≤ mget S.M k ∧ mget S.M k < 18446744073709551616 := hp _ (List.mem_cons_of_mem _ (List.mem_cons_of_mem _ (List.mem_cons_of_mem _ (List.mem_cons_self ..))))
  have hc : 4 < mget S.M (key 5 0 0) := hp _ (List.mem_cons_of_mem _ (List.mem_cons_of_mem _ (List.mem_cons_of_mem _ (List.mem_cons_of_mem _ (List.mem_cons_self ..)))))
  clear hp
  have hw := hu (key 5 0 0)
  have w1 : dWord (dOf n g) 5 0 0 = mget S.M (key 5 0 0) := (hb.agr _ _ _).symm
  have w2 : (if 4 < mget S.M (key 5 0 0) then 4 else mget S.M (key 5 0 0)) = 4 := by (split <;> omega)
  have w3 : IntKind.i64.wrap (4) = 4 := i64w (by omega) (by omega)
  have w4 : IntKind.i64.wrap (4 * 4) = 4 * 4 := (i64w (by omega) (by omega)).trans (by omega)
  have w5 : IntKind.i64.wrap (4 * 4) = 4 * 4 := i64w (by omega) (by omega)
  refine ⟨3000, _, _, _, epa2a_2 .., (ob_cons ?_ (ob_cons rfl (ob_cons ?_ (ob_cons rfl (ob_cons rfl (ob_cons rfl (ob_cons rfl (ob_cons ?_ (ob_cons rfl (ob_cons rfl (ob_cons rfl (ob_cons rfl (ob_cons ?_ (ob_cons ?_ (ob_cons ?_ (ob_cons ?_ (ob_cons rfl (ob_cons ?_ (ob_cons rfl (ob_cons ?_ (ob_cons rfl (ob_cons rfl (ob_cons rfl (ob_cons rfl (ob_cons ?_ (ob_cons ?_ (ob_cons ?_ (ob_cons rfl (ob_cons ?_ (ob_cons ?_ (ob_cons ?_ (ob_cons ?_ (ob_cons ?_ (ob_cons ?_ ob_nil))))))))))))))))))))))))))))))))))⟩
  · (simp; done)
  · (simp only [w1, w2, w3, w4, w5]; first | done | omega | exact decide_eq_true (by omega) | exact decide_eq_false (by omega) | (simp; omega))
  · exact rfl
  · exact rfl
  · exact rfl
  · exact rfl
  · exact fun _ => rfl
  · exact rfl
  · exact rfl
  · exact rfl
  · exact rfl
  · exact rfl
  · exact hl
  · exact .inr (fun i hi => row_wd rfl)
  · (simp only [w1, w2, w3, w4, w5]; first | done | omega | exact decide_eq_true (by omega) | exact decide_eq_false (by omega) | (simp; omega))
  · (simp only [w1, hc]; decide)
  · exact hl
  · omega
theorem epa2b_1 (e th t2 b : Int) (mv : Bool) (S : MS) (n l : Nat) (g : Nat → Nat → AV) (s2 : Int) (L2 : LS) : callB EEp 3000 65 [AV.agg [AV.nilp, AV.nilp, AV.ptr 1 0 0, AV.ptr 2 0 0], AV.agg [AV.ptr 3 0 0, AV.ptr 5 0 0]] (epa2bH e th t2 b mv S n l g s2 L2) (epa2bR e th t2 b mv S n l g s2 L2) [(7, Src.nm 6)] [Hint.b false, Hint.b true, Hint.node [(4, [Hint.b true])]] =
 some ([((mv == mv) == true) = true,
 e = e,
 IntKind.i64.wrap (IntKind.i64.wrap (if 4 < mget S.M (key 5 0 0) then 4 else mget S.M (key 5 0 0)) * 4) = 0,
 mv = mv,
 mv = mv,
 e = e,
 dWord (dOf n g) 5 0 0 = 0,
 IntKind.i64.wrap (S.st + 1) = (mLoad S 5 0 0).st,
 (1 : Int) = 1,
 (5 : Int) = 5,
 (0 : Int) = 0,
 (0 : Int) = 0,
 mget S.M (key 5 0 0) = (mLoad S 5 0 0).L.w,
 mget S.M (key 5 0 0) = (mLoad S 5 0 0).L.i,
 false = (mLoad S 5 0 0).L.d,
 ∀ (k : List Int), S.M k = (mLoad S 5 0 0).M k,
 (0 : Nat) = 0,
 n = (rLoad (mkR n g s2 L2) 5 0 0).D.n,
 (none : Option Nat) = none,
 IntKind.i64.wrap (s2 + 1) = (rLoad (mkR n g s2 L2) 5 0 0).st,
 (1 : Int) = 1,
 (5 : Int) = 5,
 (0 : Int) = 0,
 (0 : Int) = 0,
 dWord (dOf n g) 5 0 0 = (rLoad (mkR n g s2 L2) 5 0 0).L.w,
 dWord (dOf n g) 5 0 0 = (rLoad (mkR n g s2 L2) 5 0 0).L.i,
 false = (rLoad (mkR n g s2 L2) 5 0 0).L.d,
 false = false,
 (rLoad (mkR n g s2 L2) 5 0 0).D.n ≤ l,
 wdF (rLoad (mkR n g s2 L2) 5 0 0).D.W = g ∧ plainSh wSh = true ∨ ∀ (i : Nat), i < (rLoad (mkR n g s2 L2) 5 0 0).D.n → rowOb wSh 0 (g i) (wdF (rLoad (mkR n g s2 L2) 5 0 0).D.W i),
 decide (0 ≥ IntKind.i64.wrap (IntKind.i64.wrap (if 4 < mget S.M (key 5 0 0) then 4 else mget S.M (key 5 0 0)) * 4)) = true,
 (0 == IntKind.i64.wrap (4 * IntKind.i64.wrap (dWord (dOf n g) 5 0 0))) = true,
 decide (dWord (dOf n g) 5 0 0 > 4) = false,
 n ≤ l,
 n ≤ 1000000]) := by kernel_rfl
theorem epa2b_loc (e th t2 b : Int) (mv : Bool) (S : MS) (n l : Nat) (g : Nat → Nat → AV) (s2 : Int) (L2 : LS) : LocOk Try.prog 65 [.agg [.nilp, .nilp, .ptr 1 0 0, .ptr 2 0 0], .agg [.ptr 3 0 0, .ptr 5 0 0]] (epa2bH e th t2 b mv S n l g s2 L2) (epa2bR e th t2 b mv S n l g s2 L2) := by
  refine loc_of_call EEp_ok (fun hp => ?_)
  have hl : n ≤ l := hp _ (List.mem_cons_self ..)
  have hm : n ≤ 100000 := hp _ (List.mem_cons_of_mem _ (List.mem_cons_self ..))
  have hb : Both S (mkR n g s2 L2) := hp _ (List.mem_cons_of_mem _ (List.mem_cons_of_mem _ (List.mem_cons_self ..)))
  have hu : ∀ k, 0 ≤ mget S.M k ∧ mget S.M k < 18446744073709551616 := hp _ (List.mem_cons_of_mem _ (List.mem_cons_of_mem _ (List.mem_cons_of_mem _ (List.mem_cons_self ..))))
  have hc : mget S.M (key 5 0 0) = 0 := hp _ (List.mem_cons_of_mem _ (List.mem_cons_of_mem _ (List.mem_cons_of_mem _ (List.mem_cons_of_mem _ (List.mem_cons_self ..)))))
  clear hp
  have hw := hu (key 5 0 0)
  have w1 : dWord (dOf n g) 5 0 0 = mget S.M (key 5 0 0) := (hb.agr _ _ _).symm
  have w2 : (if 4 < mget S.M (key 5 0 0) then 4 else mget S.M (key 5 0 0)) = 0 := by (split <;> omega)
  have w3 : IntKind.i64.wrap (0) = 0 := i64w (by omega) (by omega)
  have w4 : IntKind.i64.wrap (0 * 4) = 4 * 0 := (i64w (by omega) (by omega)).trans (by omega)
  have w5 : IntKind.i64.wrap (4 * 0) = 4 * 0 := i64w (by omega) (by omega)
  refine ⟨3000, _, _, _, epa2b_1 .., (ob_cons ?_ (ob_cons rfl (ob_cons ?_ (ob_cons rfl (ob_cons rfl (ob_cons rfl (ob_cons ?_ (ob_cons ?_ (ob_cons rfl (ob_cons rfl (ob_cons rfl (ob_cons rfl (ob_cons ?_ (ob_cons ?_ (ob_cons ?_ (ob_cons ?_ (ob_cons rfl (ob_cons ?_ (ob_cons rfl (ob_cons ?_ (ob_cons rfl (ob_cons rfl (ob_cons rfl (ob_cons rfl (ob_cons ?_ (ob_cons ?_ (ob_cons ?_ (ob_cons rfl (ob_cons ?_ (ob_cons ?_ (ob_cons ?_ (ob_cons ?_ (ob_cons ?_ (ob_cons ?_ (ob_cons ?_ ob_nil)))))))))))))))))))))))))))))))))))⟩
  · (simp; done)
  · (simp only [w1, hc]; decide)
  · omega
  · exact rfl
  · exact rfl
  · exact rfl
  · exact rfl
  · exact fun _ => rfl
  · exact rfl
  · exact rfl
  · exact rfl
  · exact rfl
  · exact rfl
  · exact hl
  · exact .inr (fun i hi => row_wd rfl)
  · (simp only [w1, hc]; decide)
  · (simp only [w1, hc]; decide)
  · (simp only [w1, hc]; decide)
  · exact hl
  · omega
theorem epa2c_1 (e th t2 b : Int) (mv : Bool) (S : MS) (n l : Nat) (g : Nat → Nat → AV) (s2 : Int) (L2 : LS) : callB EEp 3000 65 [AV.agg [AV.nilp, AV.nilp, AV.ptr 1 0 0, AV.ptr 2 0 0], AV.agg [AV.ptr 3 0 0, AV.ptr 5 0 0]] (epa2cH e th t2 b mv S n l g s2 L2) (epa2cR e th t2 b mv S n l g s2 L2) [(7, Src.nm 6)] [Hint.b false, Hint.b false, Hint.node [(4, [Hint.b false])]] =
 some ([((mv == mv) == true) = true,
 e = e,
 IntKind.i64.wrap (IntKind.i64.wrap (if 4 < mget S.M (key 5 0 0) then 4 else mget S.M (key 5 0 0)) * 4) = 4 * mget S.M (key 5 0 0),
 mv = mv,
 mv = mv,
 e = e,
 dWord (dOf n g) 5 0 0 = mget S.M (key 5 0 0),
 IntKind.i64.wrap (S.st + 1) = (mLoad S 5 0 0).st,
 (1 : Int) = 1,
 (5 : Int) = 5,
 (0 : Int) = 0,
 (0 : Int) = 0,
 mget S.M (key 5 0 0) = (mLoad S 5 0 0).L.w,
 mget S.M (key 5 0 0) = (mLoad S 5 0 0).L.i,
 false = (mLoad S 5 0 0).L.d,
 ∀ (k : List Int), S.M k = (mLoad S 5 0 0).M k,
 (0 : Nat) = 0,
 n = (rLoad (mkR n g s2 L2) 5 0 0).D.n,
 (none : Option Nat) = none,
 IntKind.i64.wrap (s2 + 1) = (rLoad (mkR n g s2 L2) 5 0 0).st,
 (1 : Int) = 1,
 (5 : Int) = 5,
 (0 : Int) = 0,
 (0 : Int) = 0,
 dWord (dOf n g) 5 0 0 = (rLoad (mkR n g s2 L2) 5 0 0).L.w,
 dWord (dOf n g) 5 0 0 = (rLoad (mkR n g s2 L2) 5 0 0).L.i,
 false = (rLoad (mkR n g s2 L2) 5 0 0).L.d,
 false = false,
 (rLoad (mkR n g s2 L2) 5 0 0).D.n ≤ l,
 wdF (rLoad (mkR n g s2 L2) 5 0 0).D.W = g ∧ plainSh wSh = true ∨ ∀ (i : Nat), i < (rLoad (mkR n g s2 L2) 5 0 0).D.n → rowOb wSh 0 (g i) (wdF (rLoad (mkR n g s2 L2) 5 0 0).D.W i),
 decide (0 ≥ IntKind.i64.wrap (IntKind.i64.wrap (if 4 < mget S.M (key 5 0 0) then 4 else mget S.M (key 5 0 0)) * 4)) = false,
 (0 == IntKind.i64.wrap (4 * IntKind.i64.wrap (dWord (dOf n g) 5 0 0))) = false,
 decide (dWord (dOf n g) 5 0 0 > 4) = false,
 n ≤ l,
 n ≤ 1000000]) := by kernel_rfl
theorem epa2c_loc (e th t2 b : Int) (mv : Bool) (S : MS) (n l : Nat) (g : Nat → Nat → AV) (s2 : Int) (L2 : LS) : LocOk Try.prog 65 [.agg [.nilp, .nilp, .ptr 1 0 0, .ptr 2 0 0], .agg [.ptr 3 0 0, .ptr 5 0 0]] (epa2cH e th t2 b mv S n l g s2 L2) (epa2cR e th t2 b mv S n l g s2 L2) := by
  refine loc_of_call EEp_ok (fun hp => ?_)
  have hl : n ≤ l := hp _ (List.mem_cons_self ..)
  have hm : n ≤ 100000 := hp _ (List.mem_cons_of_mem _ (List.mem_cons_self ..))
  have hb : Both S (mkR n g s2 L2) := hp _ (List.mem_cons_of_mem _ (List.mem_cons_of_mem _ (List.mem_cons_self ..)))
  have hu : ∀ k, 0 ≤ mget S.M k ∧ mget S.M k < 18446744073709551616 := hp _ (List.mem_cons_of_mem _ (List.mem_cons_of_mem _ (List.mem_cons_of_mem _ (List.mem_cons_self ..))))
  have hc : 0 < mget S.M (key 5 0 0) ∧ mget S.M (key 5 0 0) ≤ 4 := hp _ (List.mem_cons_of_mem _ (List.mem_cons_of_mem _ (List.mem_cons_of_mem _ (List.mem_cons_of_mem _ (List.mem_cons_self ..)))))
  clear hp
  have hw := hu (key 5 0 0)
  have w1 : dWord (dOf n g) 5 0 0 = mget S.M (key 5 0 0) := (hb.agr _ _ _).symm
  have w2 : (if 4 < mget S.M (key 5 0 0) then 4 else mget S.M (key 5 0 0)) = (mget S.M (key 5 0 0)) := by (split <;> omega)
  have w3 : IntKind.i64.wrap ((mget S.M (key 5 0 0))) = (mget S.M (key 5 0 0)) := i64w (by omega) (by omega)
  have w4 : IntKind.i64.wrap ((mget S.M (key 5 0 0)) * 4) = 4 * (mget S.M (key 5 0 0)) := (i64w (by omega) (by omega)).trans (by omega)
  have w5 : IntKind.i64.wrap (4 * (mget S.M (key 5 0 0))) = 4 * (mget S.M (key 5 0 0)) := i64w (by omega) (by omega)
  refine ⟨3000, _, _, _, epa2c_1 .., (ob_cons ?_ (ob_cons rfl (ob_cons ?_ (ob_cons rfl (ob_cons rfl (ob_cons rfl (ob_cons ?_ (ob_cons ?_ (ob_cons rfl (ob_cons rfl (ob_cons rfl (ob_cons rfl (ob_cons ?_ (ob_cons ?_ (ob_cons ?_ (ob_cons ?_ (ob_cons rfl (ob_cons ?_ (ob_cons rfl (ob_cons ?_ (ob_cons rfl (ob_cons rfl (ob_cons rfl (ob_cons rfl (ob_cons ?_ (ob_cons ?_ (ob_cons ?_ (ob_cons rfl (ob_cons ?_ (ob_cons ?_ (ob_cons ?_ (ob_cons ?_ (ob_cons ?_ (ob_cons ?_ (ob_cons ?_ ob_nil)))))))))))))))))))))))))))))))))))⟩
  · (simp; done)
  · (simp only [w1, w2, w3, w4, w5]; first | done | omega | exact decide_eq_true (by omega) | exact decide_eq_false (by omega) | (simp; omega))
  · exact (hb.agr _ _ _).symm
  · exact rfl
  · exact rfl
  · exact rfl
  · exact rfl
  · exact fun _ => rfl
  · exact rfl
  · exact rfl
  · exact rfl
  · exact rfl
  · exact rfl
  · exact hl
  · exact .inr (fun i hi => row_wd rfl)
  · (simp only [w1, w2, w3, w4, w5]; first | done | omega | exact decide_eq_true (by omega) | exact decide_eq_false (by omega) | (simp; omega))
  · (simp only [w1, w2, w3, w4, w5]; first | done | omega | exact decide_eq_true (by omega) | exact decide_eq_false (by omega) | (simp; omega))
  · (simp only [w1, w2, w3, w4, w5]; first | done | omega | exact decide_eq_true (by omega) | exact decide_eq_false (by omega) | (simp; omega))
  · exact hl
  · omega
end Go.Proofs.Ytephpkfajobhmaa
